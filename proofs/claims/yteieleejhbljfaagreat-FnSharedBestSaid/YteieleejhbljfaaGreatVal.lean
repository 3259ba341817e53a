/- The draw of values. -/
import Derived.Test.YteieleejhbljfaaGreatSrc
import Derived.Test.YteieleejhbljfaaGreatInts
namespace Go.Proofs.YteieleejhbljfaaGreat
open Go Go.Ax Go.Proofs
set_option linter.unusedVariables false
set_option linter.unusedSimpArgs false
set_option maxRecDepth 20000
def srcP (P : ByteArray → Prop) (b : Nat) (code : List UInt8) (p k : Nat) : AV → Hp → Prop := fun r hp' => ∃ (s : ByteArray) (q : Nat), P s ∧ p ≤ q ∧ q ≤ p + k ∧ r = str s ∧ hp' = [src b code q]
theorem oneP_AH (P : ByteArray → Prop) (b : Nat) (code : List UInt8) (p : Nat) (l : List ByteArray) (hc : code.length ≤ 1048576) (hp : p ≤ 100000000000) (hl : l.length ≤ 1000000) (hne : l ≠ []) (hP : ∀ s ∈ l, P s) : FnH 54 [src b code p] [.ptr (some b) 0 0 2, .ro 1 (strs l) [] false] (srcP P b code p 2) := by
  have hls := strs_length l
  have hpos : 0 < l.length := List.length_pos_iff.2 hne
  refine AH.intro Tryz.func54 nm54 rfl rfl rfl fun w0 ok0 own0 => ?_
  refine AWP.seq ?_
  refine AWP.region ?_
  refine Y (ass rfl) rfl ?_
  refine AOps.nil ?_
  refine AWP.seq ?_
  refine AWP.seq ?_
  refine AWP.region ?_
  refine Y (mv rfl) rfl ?_
  refine Y (Yields.len_ro sl27 rfl) rfl ?_
  refine Y (bn rfl rfl BinR.eql rfl) rfl ?_
  refine AOps.nil ?_
  refine AWP.condT rfl (fun h => ?_) (fun h => ?_)
  ·
   replace h := eq_of_beq h
   omega
  ·
   replace h := ne_of_beq_false h
   refine AWP.skip ?_
   refine AWP.seq ?_
   refine AWP.region ?_
   refine Y (mv rfl) rfl ?_
   refine Y (mv rfl) rfl ?_
   refine Y (mv rfl) rfl ?_
   refine Y (Yields.len_ro sl27 rfl) rfl ?_
   refine AOps.callH (.inl trivial) (pick_AH b code p (strs l).length hc hp (by omega) (by omega)) rfl rfl rfl (WkL.refl _) ?_
   rintro _ _ ⟨m, q, h3, h4, h5, h6, rfl, rfl⟩
   obtain ⟨c, hcc, _⟩ := drop_at (l := l) (i := m.toNat) (by omega)
   refine Y (Yields.idx_roN sl27 rfl rfl rfl (j := m.toNat) (by omega) (by omega)) rfl ?_
   refine Y (Yields.load_rop_one kd9 rfl (strs_at hcc) rfl) rfl ?_
   refine Y (ass rfl) rfl ?_
   refine AOps.nil ?_
   refine AWP.ret ⟨.inl rfl, ?_⟩
   exact RetH.of (rs := [.tmp 4]) (vs := [_]) rfl ⟨rfl, trivial⟩ (KeepR.cons 0 rfl KeepR.nil) (⟨c, q, hP c (List.mem_of_getElem? hcc), h5, h6, rfl, rfl⟩)
def anyP (s : ByteArray) : Prop := s ∈ anyL1 ++ anyL2
theorem anyP_size {s : ByteArray} (h : anyP s) : s.size ≤ 24 := by
  have : ∀ s ∈ anyL1 ++ anyL2, s.size ≤ 24 := by decide
  exact this s h
theorem anyNameP_AH (b : Nat) (code : List UInt8) (p : Nat) (hc : code.length ≤ 1048576) (hp : p ≤ 10000000000) : FnH 59 [src b code p] [.ptr (some b) 0 0 2] (srcP anyP b code p 4) := by
  refine AH.intro Tryz.func59 nm59 rfl rfl rfl fun w0 ok0 own0 => ?_
  refine AWP.seq ?_
  refine AWP.region ?_
  refine Y (ass rfl) rfl ?_
  refine AOps.nil ?_
  refine AWP.seq ?_
  refine AWP.seq ?_
  refine AWP.region ?_
  refine Y (mv rfl) rfl ?_
  refine AOps.callH (.inl trivial) (rare_AH b code p hc (by omega)) rfl rfl rfl (WkL.refl _) ?_
  rintro _ _ ⟨m, q, h5, h6, rfl, rfl⟩
  refine AOps.nil ?_
  refine AWP.condT rfl (fun h => ?_) (fun h => ?_)
  ·
   skip
   refine AWP.seq ?_
   refine AWP.region ?_
   refine Y (mv rfl) rfl ?_
   refine AOps.buildSlice sl27 z9 rfl rfl rfl rfl rfl fun l1 => ?_
   refine AOps.leads (Leads.freezeT 1 6 (.inl trivial) rfl (fz_strs anyL1 rfl)) ?_
   refine AOps.callH (.inl trivial) (oneP_AH anyP b code q anyL1 hc (by omega) (by decide) (by decide) (fun s hs => List.mem_append_left _ hs)) rfl rfl rfl (WkL.refl _) ?_
   rintro _ _ ⟨s, q', h7, h8, h9, rfl, rfl⟩
   refine Y (ass rfl) rfl ?_
   refine AOps.nil ?_
   refine AWP.ret ⟨.inl rfl, ?_⟩
   exact RetH.of (rs := [.tmp 2]) (vs := [_]) rfl ⟨rfl, trivial⟩ (KeepR.cons 0 rfl KeepR.nil) (⟨s, q', h7, by omega, by omega, rfl, rfl⟩)
  ·
   skip
   refine AWP.skip ?_
   refine AWP.seq ?_
   refine AWP.region ?_
   refine Y (mv rfl) rfl ?_
   refine AOps.buildSlice sl27 z9 rfl rfl rfl rfl rfl fun l2 => ?_
   refine AOps.leads (Leads.freezeT 1 9 (.inl trivial) rfl (fz_strs anyL2 rfl)) ?_
   refine AOps.callH (.inl trivial) (oneP_AH anyP b code q anyL2 hc (by omega) (by decide) (by decide) (fun s hs => List.mem_append_right _ hs)) rfl rfl rfl (WkL.refl _) ?_
   rintro _ _ ⟨s, q', h7, h8, h9, rfl, rfl⟩
   refine Y (ass rfl) rfl ?_
   refine AOps.nil ?_
   refine AWP.ret ⟨.inl rfl, ?_⟩
   exact RetH.of (rs := [.tmp 2]) (vs := [_]) rfl ⟨rfl, trivial⟩ (KeepR.cons 0 rfl KeepR.nil) (⟨s, q', h7, by omega, by omega, rfl, rfl⟩)
def textL : List ByteArray := [⟨#[]⟩, ⟨#[97]⟩, ⟨#[104, 105]⟩, ⟨#[115, 111, 32, 115, 111]⟩, ⟨#[120, 43, 49]⟩, ⟨#[101, 110, 100, 46]⟩]
theorem text_AH (b : Nat) (code : List UInt8) (p : Nat) (hc : code.length ≤ 1048576) (hp : p ≤ 10000000000) : FnH 117 [src b code p] [.ptr (some b) 0 0 2] (srcS 24 b code p 2) := by
  refine AH.intro Tryz.func117 nm117 rfl rfl rfl fun w0 ok0 own0 => ?_
  refine AWP.seq ?_
  refine AWP.region ?_
  refine Y (ass rfl) rfl ?_
  refine AOps.nil ?_
  refine AWP.seq ?_
  refine AWP.region ?_
  refine Y (mv rfl) rfl ?_
  refine AOps.buildSlice sl27 z9 rfl rfl rfl rfl rfl fun l1 => ?_
  refine AOps.leads (Leads.freezeT 1 4 (.inl trivial) rfl (fz_strs textL rfl)) ?_
  refine AOps.callH (.inl trivial) (one_AH b code p 24 textL hc (by omega) (by decide) (by decide)) rfl rfl rfl (WkL.refl _) ?_
  rintro _ _ ⟨s, q', h7, h8, h9, rfl, rfl⟩
  refine Y (ass rfl) rfl ?_
  refine AOps.nil ?_
  refine AWP.ret ⟨.inl rfl, ?_⟩
  exact RetH.of (rs := [.tmp 2]) (vs := [_]) rfl ⟨rfl, trivial⟩ (KeepR.cons 0 rfl KeepR.nil) (⟨s, q', h7, by omega, by omega, rfl, rfl⟩)
def oddL : List ByteArray := [⟨#[]⟩, ⟨#[39]⟩, ⟨#[97, 10]⟩, ⟨#[97, 32, 108, 111, 110, 103, 32, 116, 101, 120, 116, 32, 111, 102, 32, 109, 97, 110, 121, 32, 115, 105, 103, 110, 115]⟩]
def anyN : List Int := [0, 1, 12, 345, 9999, 10000]
def costV : Nat → Nat
  | 0 => 20
  | d + 1 => 20 + 4 * costV d
def sizeV : Nat → Nat
  | 0 => 1
  | d + 1 => 1 + 4 * sizeV d
theorem sizeTs_snoc (l : List Tr) (k : Tr) : sizeTs (l ++ [k]) = sizeTs l + sizeT k := by
  induction l with
  | nil => simp [sizeTs]
  | cons x l ih => rw [List.cons_append, sizeTs, ih, sizeTs]; omega
theorem bnds_snoc {N : Nat} {l : List Tr} {k : Tr} (h : Tr.bnds N l) (hk : k.bnd N) : Tr.bnds N (l ++ [k]) := by
  induction l with
  | nil => exact ⟨hk, trivial⟩
  | cons x l ih => exact ⟨h.1, ih h.2⟩
theorem avs_snoc (l : List Tr) (k : Tr) : Tr.avs l ++ [k.av] = Tr.avs (l ++ [k]) := by
  induction l with
  | nil => rfl
  | cons x l ih => simp only [List.cons_append, Tr.avs, ih]
def srcV (N : Nat) (b : Nat) (code : List UInt8) (p k : Nat) : AV → Hp → Prop := fun r hp' => ∃ (v : Tr) (q : Nat), v.bnd 1000000 ∧ sizeT v ≤ N ∧ p ≤ q ∧ q ≤ p + k ∧ r = v.av ∧ hp' = [src b code q]
theorem plain_avs : ∀ l : List Tr, plainL (Tr.avs l) = true
  | [] => rfl
  | k :: l => by simp only [Tr.avs, plainL, Tr.plain_av, Bool.true_and]; exact plain_avs l
theorem fz_node {B : Option Nat} {k n : Int} {t : ByteArray} {l : List Tr} {len : Nat} (hl : len = l.length) : Fz [(B, ⟨4, Tr.avs l⟩)] (.agg [int k, int n, str t, .loc B 0 len len 4]) (Tr.av (.mk k n t l)) := by
  subst hl
  exact (Bor.agg (us := [int k, int n, str t, .loc B 0 l.length l.length 4]) (ps := [int k, int n, str t, .ro 4 (Tr.avs l) [] false]) ⟨Bor.refl rfl, Bor.refl rfl, Bor.refl rfl, Bor.loc (j := 0) rfl (by simp [Tr.avs_length]) (by rw [List.take_of_length_le (by simp [Tr.avs_length])]; exact viewL_refl (plain_avs l)), trivial⟩).fz
theorem sizeV_pos : ∀ d, 1 ≤ sizeV d
  | 0 => Nat.le_refl _
  | d + 1 => by rw [sizeV]; omega
theorem leaf_bnd (k n : Int) (t : ByteArray) (h : t.size ≤ 30) : Tr.bnd 1000000 (.mk k n t []) := ⟨by omega, by simp, trivial⟩
theorem leaf_size (k n : Int) (t : ByteArray) (d : Nat) : sizeT (.mk k n t []) ≤ sizeV d := by
  have := sizeV_pos d
  simp only [sizeT, sizeTs]
  omega
theorem wk_leaf (k n : Int) (t : ByteArray) : Wk (.agg [int k, int n, str t, .val (.slice none 0 0)]) (Tr.av (.mk k n t [])) := Wk.agg (ps := [int k, int n, str t, .ro 4 [] [] false]) ⟨Wk.refl _, Wk.refl _, Wk.refl _, Wk.nil, trivial⟩
end Go.Proofs.YteieleejhbljfaaGreat
