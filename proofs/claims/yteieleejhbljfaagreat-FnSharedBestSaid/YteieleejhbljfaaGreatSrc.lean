/- What draws: a source of numbers. -/
import Derived.Test.YteieleejhbljfaaGreatStrs
namespace Go.Proofs.YteieleejhbljfaaGreat
open Go Go.Ax Go.Proofs
set_option linter.unusedVariables false
set_option linter.unusedSimpArgs false
set_option maxRecDepth 20000
abbrev src (b : Nat) (code : List UInt8) (p : Nat) : Option Nat × Row := (some b, ⟨2, [.agg [.ro 1 (bytesV code) [] false, int p]]⟩)
def srcN (b : Nat) (code : List UInt8) (p k : Nat) (n : Int) : AV → Hp → Prop := fun r hp' => ∃ (m : Int) (q : Nat), 0 ≤ m ∧ m < n ∧ p ≤ q ∧ q ≤ p + k ∧ r = int m ∧ hp' = [src b code q]
theorem next_AH (b : Nat) (code : List UInt8) (p : Nat) (hc : code.length ≤ 1048576) (hp : p ≤ 1000000000000) : FnH 82 [src b code p] [.ptr (some b) 0 0 2] (srcN b code p 1 256) := by
  have hl := bytesV_length code
  refine AH.intro Tryz.func82 nm82 rfl rfl rfl fun w0 ok0 own0 => ?_
  refine AWP.seq ?_
  refine AWP.region ?_
  refine Y (ass rfl) rfl ?_
  refine AOps.nil ?_
  refine AWP.seq ?_
  refine AWP.region ?_
  refine Y (mv rfl) rfl ?_
  refine Y (mv rfl) rfl ?_
  refine Y (Yields.nilCheck_ptr rfl) rfl ?_
  refine Y (Yields.fieldAddr_ptr fo65_1 rfl) rfl ?_
  refine Y (Yields.load_ptr_field (j := 0) kd3 rfl rfl rfl rfl rfl rfl rfl) rfl ?_
  refine Y (bn rfl rfl (BinR.addI (by omega) (by omega)) rfl) rfl ?_
  refine Y (Yields.nilCheck_ptr rfl) rfl ?_
  refine Y (Yields.fieldAddr_ptr fo65_1 rfl) rfl ?_
  refine AOps.storeField (j := 0) kd3 rfl rfl rfl rfl rfl rfl rfl ?_
  refine AOps.nil ?_
  refine AWP.seq ?_
  refine AWP.seq ?_
  refine AWP.prune (tm' := [(0, _), (2, _)]) ⟨rfl, rfl, trivial⟩ ?_
  refine AWP.drawn mixed rfl rfl ?_
  refine D (tm' := [(0, _)]) ⟨rfl, trivial⟩ (DStep.yields (mv rfl)) rfl ?_
  refine D (tm' := [(11, _)]) ⟨rfl, trivial⟩ (DStep.yields (Yields.nilCheck_ptr rfl)) rfl ?_
  refine D (tm' := [(12, _)]) ⟨rfl, trivial⟩ (DStep.yields (Yields.fieldAddr_ptr fo65_1 rfl)) rfl ?_
  refine D (tm' := [(13, _)]) ⟨rfl, trivial⟩ (DStep.yields (Yields.load_ptr_field (j := 0) kd3 rfl rfl rfl rfl rfl rfl rfl)) rfl ?_
  refine D (tm' := [(0, _)]) ⟨rfl, trivial⟩ (DStep.yields (mv rfl)) rfl ?_
  refine D (tm' := [(15, _)]) ⟨rfl, trivial⟩ (DStep.yields (Yields.nilCheck_ptr rfl)) rfl ?_
  refine D (tm' := [(16, _)]) ⟨rfl, trivial⟩ (DStep.yields (Yields.fieldAddr_ptr fo65_0 rfl)) rfl ?_
  refine D (tm' := [(17, _)]) ⟨rfl, trivial⟩ (DStep.yields (Yields.load_ptr_field (j := 0) kd22 rfl rfl rfl rfl rfl rfl rfl)) rfl ?_
  refine D (tm' := [(18, _)]) ⟨rfl, trivial⟩ (DStep.yields (Yields.len_ro sl22 rfl)) rfl ?_
  refine D (tm' := [(14, _), (19, _)]) ⟨rfl, rfl, trivial⟩ (DStep.yields (bn rfl rfl BinR.gtr rfl)) rfl ?_
  refine DOps.nil ?_
  refine AWP.condT rfl (fun h => ?_) (fun h => ?_)
  ·
   replace h := of_decide_eq_true h
   refine AWP.seq ?_
   refine AWP.prune (tm' := [(0, _), (2, _), (20, _)]) ⟨rfl, rfl, rfl, trivial⟩ ?_
   refine AWP.drawn mixed rfl rfl ?_
   refine D (tm' := [(0, _)]) ⟨rfl, trivial⟩ (DStep.yields (mv rfl)) rfl ?_
   refine D (tm' := [(21, _)]) ⟨rfl, trivial⟩ (DStep.yields (Yields.nilCheck_ptr rfl)) rfl ?_
   refine D (tm' := [(22, _)]) ⟨rfl, trivial⟩ (DStep.yields (Yields.fieldAddr_ptr fo65_1 rfl)) rfl ?_
   refine D (tm' := [(23, _)]) ⟨rfl, trivial⟩ (DStep.yields (Yields.load_ptr_field (j := 0) kd3 rfl rfl rfl rfl rfl rfl rfl)) rfl ?_
   refine D (tm' := [(24, _)]) ⟨rfl, trivial⟩ (DStep.yields (bn rfl rfl (BinR.mulI (by omega) (by omega)) rfl)) rfl ?_
   refine D (tm' := [(0, _)]) ⟨rfl, trivial⟩ (DStep.yields (mv rfl)) rfl ?_
   refine D (tm' := [(26, _)]) ⟨rfl, trivial⟩ (DStep.yields (Yields.nilCheck_ptr rfl)) rfl ?_
   refine D (tm' := [(27, _)]) ⟨rfl, trivial⟩ (DStep.yields (Yields.fieldAddr_ptr fo65_0 rfl)) rfl ?_
   refine D (tm' := [(28, _)]) ⟨rfl, trivial⟩ (DStep.yields (Yields.load_ptr_field (j := 0) kd22 rfl rfl rfl rfl rfl rfl rfl)) rfl ?_
   refine D (tm' := [(29, _)]) ⟨rfl, trivial⟩ (DStep.yields (Yields.len_ro sl22 rfl)) rfl ?_
   refine D (tm' := [(30, _)]) ⟨rfl, trivial⟩ (DStep.yields (bn rfl rfl (BinR.mulI (by omega) (by omega)) rfl)) rfl ?_
   refine D (tm' := [(25, _), (31, _)]) ⟨rfl, rfl, trivial⟩ (DStep.yields (bn rfl rfl (BinR.addI (by omega) (by omega)) rfl)) rfl ?_
   refine D (tm' := [(32, _)]) ⟨rfl, trivial⟩ (DStep.yields (bn rfl rfl (BinR.rem (by decide)) rfl)) rfl ?_
   refine D (tm' := [(33, _)]) ⟨rfl, trivial⟩ (DStep.yields (ass rfl)) rfl ?_
   refine DOps.nil ?_
   refine AWP.ret ⟨.inl rfl, ?_⟩
   exact RetH.of (rs := [.tmp 2]) (vs := [_]) rfl ⟨rfl, trivial⟩ (KeepR.cons 0 rfl KeepR.nil) (⟨_, p + 1, Int.tmod_nonneg _ (by omega), by have := Int.tmod_lt_of_pos (((p : Int) + 1) * 37 + ((bytesV code).length : Int) * 11) (show (0 : Int) < 251 by omega); omega, by omega, by omega, rfl, rfl⟩)
  ·
   replace h := of_decide_eq_false h
   obtain ⟨c, hcc, _⟩ := drop_at (l := code) (i := p) (by omega)
   refine AWP.skip ?_
   refine AWP.seq ?_
   refine AWP.prune (tm' := [(0, _), (2, _), (20, _)]) ⟨rfl, rfl, rfl, trivial⟩ ?_
   refine AWP.drawn mixed rfl rfl ?_
   refine D (tm' := [(0, _)]) ⟨rfl, trivial⟩ (DStep.yields (mv rfl)) rfl ?_
   refine D (tm' := [(34, _)]) ⟨rfl, trivial⟩ (DStep.yields (Yields.nilCheck_ptr rfl)) rfl ?_
   refine D (tm' := [(35, _)]) ⟨rfl, trivial⟩ (DStep.yields (Yields.fieldAddr_ptr fo65_0 rfl)) rfl ?_
   refine D (tm' := [(36, _)]) ⟨rfl, trivial⟩ (DStep.yields (Yields.load_ptr_field (j := 0) kd22 rfl rfl rfl rfl rfl rfl rfl)) rfl ?_
   refine D (tm' := [(0, _)]) ⟨rfl, trivial⟩ (DStep.yields (mv rfl)) rfl ?_
   refine D (tm' := [(38, _)]) ⟨rfl, trivial⟩ (DStep.yields (Yields.nilCheck_ptr rfl)) rfl ?_
   refine D (tm' := [(39, _)]) ⟨rfl, trivial⟩ (DStep.yields (Yields.fieldAddr_ptr fo65_1 rfl)) rfl ?_
   refine D (tm' := [(40, _)]) ⟨rfl, trivial⟩ (DStep.yields (Yields.load_ptr_field (j := 0) kd3 rfl rfl rfl rfl rfl rfl rfl)) rfl ?_
   refine D (tm' := [(41, _)]) ⟨rfl, trivial⟩ (DStep.yields (bn rfl rfl (BinR.subI (by omega) (by omega)) rfl)) rfl ?_
   refine D (tm' := [(37, _), (42, _)]) ⟨rfl, rfl, trivial⟩ (DStep.yields (Yields.idx_roN sl22 rfl rfl rfl (j := p) (by omega) (by omega))) rfl ?_
   refine D (tm' := [(43, _)]) ⟨rfl, trivial⟩ (DStep.yields (Yields.load_rop_one kd5 rfl (bytesV_at hcc) rfl)) rfl ?_
   refine D (tm' := [(44, _)]) ⟨rfl, trivial⟩ (DStep.yields (Yields.conv_int Tryz.underlying5 Tryz.underlying3 rfl)) rfl ?_
   refine D (tm' := [(45, _)]) ⟨rfl, trivial⟩ (DStep.yields (ass rfl)) rfl ?_
   refine DOps.nil ?_
   refine AWP.ret ⟨.inl rfl, ?_⟩
   exact RetH.of (rs := [.tmp 2]) (vs := [_]) rfl ⟨rfl, trivial⟩ (KeepR.cons 0 rfl KeepR.nil) (⟨_, p + 1, by rw [Go.IntWalk.i64_in _ ⟨by omega, by have := c.toNat_lt; omega⟩]; omega, by rw [Go.IntWalk.i64_in _ ⟨by omega, by have := c.toNat_lt; omega⟩]; have := c.toNat_lt; omega, by omega, by omega, rfl, rfl⟩)
theorem pick_AH (b : Nat) (code : List UInt8) (p : Nat) (n : Int) (hc : code.length ≤ 1048576) (hp : p ≤ 100000000000) (hn : 1 ≤ n) (hn2 : n ≤ 1000000) : FnH 50 [src b code p] [.ptr (some b) 0 0 2, int n] (srcN b code p 2 n) := by
  refine AH.intro Tryz.func50 nm50 rfl rfl rfl fun w0 ok0 own0 => ?_
  refine AWP.seq ?_
  refine AWP.region ?_
  refine Y (ass rfl) rfl ?_
  refine AOps.nil ?_
  refine AWP.seq ?_
  refine AWP.seq ?_
  refine AWP.region ?_
  refine Y (mv rfl) rfl ?_
  refine Y (bn rfl rfl BinR.lss rfl) rfl ?_
  refine AOps.nil ?_
  refine AWP.condT rfl (fun h => ?_) (fun h => ?_)
  ·
   replace h := of_decide_eq_true h
   omega
  ·
   replace h := of_decide_eq_false h
   refine AWP.skip ?_
   refine AWP.seq ?_
   refine AWP.seq ?_
   refine AWP.region ?_
   refine Y (mv rfl) rfl ?_
   refine Y (bn rfl rfl BinR.gtr rfl) rfl ?_
   refine AOps.nil ?_
   refine AWP.condT rfl (fun h2 => ?_) (fun h2 => ?_)
   ·
    replace h2 := of_decide_eq_true h2
    refine AWP.seq ?_
    refine AWP.region ?_
    refine Y (mv rfl) rfl ?_
    refine AOps.callH (.inl trivial) (next_AH b code p hc (by omega)) rfl rfl rfl (WkL.refl _) ?_
    rintro _ _ ⟨m, q, h3, h4, h5, h6, rfl, rfl⟩
    refine Y (bn rfl rfl (BinR.mulI (by omega) (by omega)) rfl) rfl ?_
    refine Y (mv rfl) rfl ?_
    refine AOps.callH (.inl trivial) (next_AH b code q hc (by omega)) rfl rfl rfl (WkL.refl _) ?_
    rintro _ _ ⟨m', q', h3', h4', h5', h6', rfl, rfl⟩
    refine Y (bn rfl rfl (BinR.addI (by omega) (by omega)) rfl) rfl ?_
    refine Y (mv rfl) rfl ?_
    refine Y (bn rfl rfl (BinR.rem (by omega)) rfl) rfl ?_
    refine Y (ass rfl) rfl ?_
    refine AOps.nil ?_
    refine AWP.ret ⟨.inl rfl, ?_⟩
    exact RetH.of (rs := [.tmp 4]) (vs := [_]) rfl ⟨rfl, trivial⟩ (KeepR.cons 0 rfl KeepR.nil) (⟨_, q', Int.tmod_nonneg _ (by omega), Int.tmod_lt_of_pos _ (by omega), by omega, by omega, rfl, rfl⟩)
   ·
    replace h2 := of_decide_eq_false h2
    refine AWP.skip ?_
    refine AWP.seq ?_
    refine AWP.region ?_
    refine Y (mv rfl) rfl ?_
    refine AOps.callH (.inl trivial) (next_AH b code p hc (by omega)) rfl rfl rfl (WkL.refl _) ?_
    rintro _ _ ⟨m, q, h3, h4, h5, h6, rfl, rfl⟩
    refine Y (mv rfl) rfl ?_
    refine Y (bn rfl rfl (BinR.rem (by omega)) rfl) rfl ?_
    refine Y (ass rfl) rfl ?_
    refine AOps.nil ?_
    refine AWP.ret ⟨.inl rfl, ?_⟩
    exact RetH.of (rs := [.tmp 4]) (vs := [_]) rfl ⟨rfl, trivial⟩ (KeepR.cons 0 rfl KeepR.nil) (⟨_, q, Int.tmod_nonneg _ (by omega), Int.tmod_lt_of_pos _ (by omega), by omega, by omega, rfl, rfl⟩)
def srcB (b : Nat) (code : List UInt8) (p k : Nat) : AV → Hp → Prop := fun r hp' => ∃ (m : Bool) (q : Nat), p ≤ q ∧ q ≤ p + k ∧ r = bool m ∧ hp' = [src b code q]
theorem rare_AH (b : Nat) (code : List UInt8) (p : Nat) (hc : code.length ≤ 1048576) (hp : p ≤ 100000000000) : FnH 58 [src b code p] [.ptr (some b) 0 0 2] (srcB b code p 2) := by
  refine AH.intro Tryz.func58 nm58 rfl rfl rfl fun w0 ok0 own0 => ?_
  refine AWP.seq ?_
  refine AWP.region ?_
  refine Y (ass rfl) rfl ?_
  refine AOps.nil ?_
  refine AWP.seq ?_
  refine AWP.region ?_
  refine Y (mv rfl) rfl ?_
  refine AOps.callH (.inl trivial) (pick_AH b code p 24 hc hp (by omega) (by omega)) rfl rfl rfl (WkL.refl _) ?_
  rintro _ _ ⟨m, q, h3, h4, h5, h6, rfl, rfl⟩
  refine Y (bn rfl rfl BinR.eql rfl) rfl ?_
  refine Y (ass rfl) rfl ?_
  refine AOps.nil ?_
  refine AWP.ret ⟨.inl rfl, ?_⟩
  exact RetH.of (rs := [.tmp 2]) (vs := [_]) rfl ⟨rfl, trivial⟩ (KeepR.cons 0 rfl KeepR.nil) (⟨_, q, h5, h6, rfl, rfl⟩)
def srcS (N : Nat) (b : Nat) (code : List UInt8) (p k : Nat) : AV → Hp → Prop := fun r hp' => ∃ (s : ByteArray) (q : Nat), s.size ≤ N ∧ p ≤ q ∧ q ≤ p + k ∧ r = str s ∧ hp' = [src b code q]
theorem one_AH (b : Nat) (code : List UInt8) (p N : Nat) (l : List ByteArray) (hc : code.length ≤ 1048576) (hp : p ≤ 100000000000) (hl : l.length ≤ 1000000) (hN : ∀ s ∈ l, s.size ≤ N) : FnH 54 [src b code p] [.ptr (some b) 0 0 2, .ro 1 (strs l) [] false] (srcS N b code p 2) := by
  have hls := strs_length l
  refine AH.intro Tryz.func54 nm54 rfl rfl rfl fun w0 ok0 own0 => ?_
  refine AWP.seq ?_
  refine AWP.region ?_
  refine Y (ass rfl) rfl ?_
  refine AOps.nil ?_
  refine AWP.seq ?_
  refine AWP.seq ?_
  refine AWP.region ?_
  refine Y (mv rfl) rfl ?_
  refine Y (Yields.len_ro sl27 rfl) rfl ?_
  refine Y (bn rfl rfl BinR.eql rfl) rfl ?_
  refine AOps.nil ?_
  refine AWP.condT rfl (fun h => ?_) (fun h => ?_)
  ·
   replace h := eq_of_beq h
   refine AWP.seq ?_
   refine AWP.region ?_
   refine Y (ass rfl) rfl ?_
   refine AOps.nil ?_
   refine AWP.ret ⟨.inl rfl, ?_⟩
   exact RetH.of (rs := [.tmp 4]) (vs := [_]) rfl ⟨rfl, trivial⟩ (KeepR.cons 0 rfl KeepR.nil) (⟨_, p, Nat.zero_le _, by omega, by omega, rfl, rfl⟩)
  ·
   replace h := ne_of_beq_false h
   refine AWP.skip ?_
   refine AWP.seq ?_
   refine AWP.region ?_
   refine Y (mv rfl) rfl ?_
   refine Y (mv rfl) rfl ?_
   refine Y (mv rfl) rfl ?_
   refine Y (Yields.len_ro sl27 rfl) rfl ?_
   refine AOps.callH (.inl trivial) (pick_AH b code p (strs l).length hc hp (by omega) (by omega)) rfl rfl rfl (WkL.refl _) ?_
   rintro _ _ ⟨m, q, h3, h4, h5, h6, rfl, rfl⟩
   obtain ⟨c, hcc, _⟩ := drop_at (l := l) (i := m.toNat) (by omega)
   refine Y (Yields.idx_roN sl27 rfl rfl rfl (j := m.toNat) (by omega) (by omega)) rfl ?_
   refine Y (Yields.load_rop_one kd9 rfl (strs_at hcc) rfl) rfl ?_
   refine Y (ass rfl) rfl ?_
   refine AOps.nil ?_
   refine AWP.ret ⟨.inl rfl, ?_⟩
   exact RetH.of (rs := [.tmp 4]) (vs := [_]) rfl ⟨rfl, trivial⟩ (KeepR.cons 0 rfl KeepR.nil) (⟨c, q, hN c (List.mem_of_getElem? hcc), h5, h6, rfl, rfl⟩)
def anyL1 : List ByteArray := [⟨#[]⟩, ⟨#[105, 102]⟩, ⟨#[65]⟩, ⟨#[108, 111, 110, 103, 110, 97, 109, 101, 57]⟩, ⟨#[49, 120]⟩, ⟨#[105, 110, 116]⟩]
def anyL2 : List ByteArray := [⟨#[97]⟩, ⟨#[98]⟩, ⟨#[99]⟩, ⟨#[120]⟩, ⟨#[121]⟩, ⟨#[122]⟩, ⟨#[110, 101, 119]⟩, ⟨#[102]⟩, ⟨#[103]⟩, ⟨#[104]⟩, ⟨#[107]⟩, ⟨#[112, 116]⟩, ⟨#[120, 49]⟩, ⟨#[119, 50]⟩]
def typL : List ByteArray := [⟨#[105, 110, 116]⟩, ⟨#[98, 111, 111, 108]⟩, ⟨#[116, 101, 120, 116]⟩, ⟨#[91, 105, 110, 116, 93]⟩, ⟨#[91, 91, 112, 116, 93, 93]⟩, ⟨#[91, 91, 91, 105, 110, 116, 93, 93, 93]⟩, ⟨#[112, 116]⟩, ⟨#[116, 114, 117, 101]⟩, ⟨#[108, 101, 116]⟩, ⟨#[97]⟩, ⟨#[97, 49]⟩, ⟨#[91, 97]⟩, ⟨#[97, 93]⟩, ⟨#[91, 93]⟩, ⟨#[108, 111, 110, 103, 110, 97, 109, 101]⟩, ⟨#[108, 111, 110, 103, 110, 97, 109, 101, 57]⟩, ⟨#[65]⟩, ⟨#[49, 97]⟩, ⟨#[97, 95, 98]⟩, ⟨#[97, 116]⟩, ⟨#[115, 105, 122, 101]⟩, ⟨#[102, 117, 110]⟩, ⟨#[105, 102, 115]⟩, ⟨#[]⟩]
theorem anyName_AH (b : Nat) (code : List UInt8) (p : Nat) (hc : code.length ≤ 1048576) (hp : p ≤ 10000000000) : FnH 59 [src b code p] [.ptr (some b) 0 0 2] (srcS 24 b code p 4) := by
  refine AH.intro Tryz.func59 nm59 rfl rfl rfl fun w0 ok0 own0 => ?_
  refine AWP.seq ?_
  refine AWP.region ?_
  refine Y (ass rfl) rfl ?_
  refine AOps.nil ?_
  refine AWP.seq ?_
  refine AWP.seq ?_
  refine AWP.region ?_
  refine Y (mv rfl) rfl ?_
  refine AOps.callH (.inl trivial) (rare_AH b code p hc (by omega)) rfl rfl rfl (WkL.refl _) ?_
  rintro _ _ ⟨m, q, h5, h6, rfl, rfl⟩
  refine AOps.nil ?_
  refine AWP.condT rfl (fun h => ?_) (fun h => ?_)
  ·
   skip
   refine AWP.seq ?_
   refine AWP.region ?_
   refine Y (mv rfl) rfl ?_
   refine AOps.buildSlice sl27 z9 rfl rfl rfl rfl rfl fun l1 => ?_
   refine AOps.leads (Leads.freezeT 1 6 (.inl trivial) rfl (fz_strs anyL1 rfl)) ?_
   refine AOps.callH (.inl trivial) (one_AH b code q 24 anyL1 hc (by omega) (by decide) (by decide)) rfl rfl rfl (WkL.refl _) ?_
   rintro _ _ ⟨s, q', h7, h8, h9, rfl, rfl⟩
   refine Y (ass rfl) rfl ?_
   refine AOps.nil ?_
   refine AWP.ret ⟨.inl rfl, ?_⟩
   exact RetH.of (rs := [.tmp 2]) (vs := [_]) rfl ⟨rfl, trivial⟩ (KeepR.cons 0 rfl KeepR.nil) (⟨s, q', h7, by omega, by omega, rfl, rfl⟩)
  ·
   skip
   refine AWP.skip ?_
   refine AWP.seq ?_
   refine AWP.region ?_
   refine Y (mv rfl) rfl ?_
   refine AOps.buildSlice sl27 z9 rfl rfl rfl rfl rfl fun l2 => ?_
   refine AOps.leads (Leads.freezeT 1 9 (.inl trivial) rfl (fz_strs anyL2 rfl)) ?_
   refine AOps.callH (.inl trivial) (one_AH b code q 24 anyL2 hc (by omega) (by decide) (by decide)) rfl rfl rfl (WkL.refl _) ?_
   rintro _ _ ⟨s, q', h7, h8, h9, rfl, rfl⟩
   refine Y (ass rfl) rfl ?_
   refine AOps.nil ?_
   refine AWP.ret ⟨.inl rfl, ?_⟩
   exact RetH.of (rs := [.tmp 2]) (vs := [_]) rfl ⟨rfl, trivial⟩ (KeepR.cons 0 rfl KeepR.nil) (⟨s, q', h7, by omega, by omega, rfl, rfl⟩)
def newSrc (code : List UInt8) : AV → Hp → Prop := fun r hp' => ∃ b : Nat, r = .ptr (some b) 0 0 2 ∧ hp' = [src b code 0]
theorem from_AH (code : List UInt8) : FnH 23 [] [.ro 1 (bytesV code) [] false] (newSrc code) := by
  refine AH.intro Tryz.func23 nm23 rfl rfl rfl fun w0 ok0 own0 => ?_
  refine AWP.seq ?_
  refine AWP.region ?_
  refine Y (ass rfl) rfl ?_
  refine AOps.nil ?_
  refine AWP.seq ?_
  refine AWP.region ?_
  refine Y (mv rfl) rfl ?_
  refine Y (Yields.build pl65 z65 rfl rfl) rfl ?_
  refine AOps.box rfl rfl rfl rfl fun b => ?_
  refine Y (ass rfl) rfl ?_
  refine AOps.nil ?_
  refine AWP.ret ⟨.inl rfl, ?_⟩
  exact RetH.of (rs := [.tmp 2]) (vs := [_]) rfl ⟨rfl, trivial⟩ (KeepR.cons 0 rfl KeepR.nil) (⟨b, rfl, rfl⟩)
def someS (N : Nat) : AV → Hp → Prop := fun r hp' => ∃ s : ByteArray, s.size ≤ N ∧ r = str s ∧ hp' = []
end Go.Proofs.YteieleejhbljfaaGreat
