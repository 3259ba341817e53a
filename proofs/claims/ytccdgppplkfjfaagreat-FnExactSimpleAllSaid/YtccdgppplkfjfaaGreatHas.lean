/- Kinds within an expression: what is plain. -/
import Derived.Test.YtccdgppplkfjfaaGreatFrz
namespace Go.Proofs.YtccdgppplkfjfaaGreat
open Go Go.Ax Go.Proofs
set_option linter.unusedVariables false
set_option linter.unusedSimpArgs false
set_option maxRecDepth 20000
def placeI : List Int → Int → Int → Int
  | [], _, _ => -1
  | m :: l, n, i => if n = m then i else placeI l n (i + 1)
def memI (l : List Int) (n : Int) : Bool := decide (n ∈ l)
theorem placeI_ge : ∀ (l : List Int) (n i : Int), 0 ≤ i → (0 ≤ placeI l n i ↔ n ∈ l)
  | [], n, i, h => by simp [placeI]
  | m :: l, n, i, h => by
    rw [placeI, List.mem_cons]
    by_cases e : n = m
    · rw [if_pos e]; simp [e]; omega
    · rw [if_neg e, placeI_ge l n (i + 1) (by omega)]; simp [e]
theorem dec_place (l : List Int) (n : Int) : decide (0 ≤ placeI l n 0) = memI l n := by
  rw [Bool.eq_iff_iff, decide_eq_true_eq, placeI_ge l n 0 (by omega), memI, decide_eq_true_eq]
theorem indexI_AF (l : List Int) (n : Int) (hl : l.length ≤ 4000000) : Fn 92 [.ro 1 (ints l) [] false, int n] (int (placeI l n 0)) := by
  have hlen := ints_length l
  refine AF.intro Tryz.func92 nm92 rfl rfl rfl rfl fun w0 ok0 => ?_
  refine AWP.seq ?_
  refine AWP.region ?_
  refine Y (ass rfl) rfl ?_
  refine AOps.nil ?_
  refine AWP.seq ?_
  refine AWP.seq ?_
  refine AWP.region ?_
  refine Y (mv rfl) rfl ?_
  refine Y (Yields.len_ro sl82 rfl) rfl ?_
  refine Y (mv rfl) rfl ?_
  refine AOps.nil ?_
  refine AWP.block ?_
  refine AWP.loopV (α := Nat) (fun i : Nat => ⟨[(0, .ro 1 (ints l) [] false), (1, int n), (7, int (ints l).length), (8, int i)], []⟩) (fun i : Nat => i ≤ l.length ∧ placeI (l.drop i) n i = placeI l n 0) (fun i : Nat => l.length - i) (0) ?_ ?_ ?_
  · exact Leads.rows 0 ⟨rfl, rfl, rfl, rfl, trivial⟩
  ·
   show 0 ≤ l.length ∧ placeI (l.drop 0) n 0 = placeI l n 0
   exact ⟨Nat.zero_le _, rfl⟩
  ·
   rintro i hinv
   refine AWP.seq ?_
   refine AWP.region ?_
   obtain ⟨hi, hp⟩ := hinv
   refine Y (bn rfl rfl BinR.lss rfl) rfl ?_
   refine AOps.nil ?_
   refine AWP.seq ?_
   refine AWP.condT rfl (fun g => ?_) (fun g => ?_)
   ·
    replace g := of_decide_eq_true g
    obtain ⟨m, hm, hd⟩ := drop_at (l := l) (i := i) (by omega)
    rw [hd, placeI] at hp
    refine AWP.skip ?_
    refine AWP.seq ?_
    refine AWP.block ?_
    refine AWP.seq ?_
    refine AWP.region ?_
    refine Y (mv rfl) rfl ?_
    refine Y (ass rfl) rfl ?_
    refine AOps.nil ?_
    refine AWP.seq ?_
    refine AWP.region ?_
    refine Y (mv rfl) rfl ?_
    refine Y (mv rfl) rfl ?_
    refine Y (mv rfl) rfl ?_
    refine Y (Yields.idx_roN sl82 rfl rfl rfl rfl (by omega)) rfl ?_
    refine Y (Yields.load_rop_one kd3 rfl (ints_at hm) rfl) rfl ?_
    refine Y (bn rfl rfl BinR.eql rfl) rfl ?_
    refine AOps.nil ?_
    refine AWP.condT rfl (fun g2 => ?_) (fun g2 => ?_)
    ·
     replace g2 := eq_of_beq g2
     refine AWP.seq ?_
     refine AWP.region ?_
     rw [if_pos g2] at hp
     refine Y (mv rfl) rfl ?_
     refine Y (ass rfl) rfl ?_
     refine AOps.nil ?_
     refine AWP.ret ⟨.inl rfl, ?_⟩
     exact RetIs.oneV rfl rfl (by (rw [← hp]) <;> rfl)
    ·
     replace g2 := ne_of_beq_false g2
     rw [if_neg g2] at hp
     refine AWP.skip ?_
     refine AWP.region ?_
     refine Y (bn rfl rfl (BinR.addI (by omega) (by omega)) rfl) rfl ?_
     refine Y (mv rfl) rfl ?_
     refine AOps.nil ?_
     refine ⟨i + 1, ?_, ?_, ?_⟩
     ·
      show l.length - (i + 1) < l.length - i
      omega
     ·
      show (i + 1) ≤ l.length ∧ placeI (l.drop (i + 1)) n (i + 1) = placeI l n 0
      exact ⟨by omega, hp⟩
     · exact Leads.rows 0 ⟨rfl, rfl, rfl, rfl, trivial⟩
   ·
    replace g := of_decide_eq_false g
    rw [List.drop_eq_nil_of_le (by omega), placeI] at hp
    refine AWP.exit ?_
    refine AWP.seq ?_
    refine AWP.region ?_
    refine Y (ass rfl) rfl ?_
    refine AOps.nil ?_
    refine AWP.ret ⟨.inl rfl, ?_⟩
    exact RetIs.oneV rfl rfl (by (rw [← hp]) <;> rfl)
theorem containsI_AF (l : List Int) (n : Int) (hl : l.length ≤ 4000000) : Fn 83 [.ro 1 (ints l) [] false, int n] (bool (memI l n)) := by
  refine AF.intro Tryz.func83 nm83 rfl rfl rfl rfl fun w0 ok0 => ?_
  refine AWP.seq ?_
  refine AWP.region ?_
  refine Y (ass rfl) rfl ?_
  refine AOps.nil ?_
  refine AWP.seq ?_
  refine AWP.region ?_
  refine Y (mv rfl) rfl ?_
  refine Y (mv rfl) rfl ?_
  refine AOps.callro (indexI_AF l n hl) rfl rfl rfl ?_
  refine Y (bn rfl rfl BinR.geq rfl) rfl ?_
  refine Y (ass rfl) rfl ?_
  refine AOps.nil ?_
  refine AWP.ret ⟨.inl rfl, ?_⟩
  exact RetIs.oneV rfl rfl (by (rw [dec_place]) <;> rfl)
mutual
def hasT : Tr → List Int → Bool
  | .mk k _ _ ks, l => memI l k || hasTs ks l
def hasTs : List Tr → List Int → Bool
  | [], _ => false
  | k :: ks, l => hasT k l || hasTs ks l
end
def firstT (l : List Int) : List Tr → Nat → Int
  | [], _ => -1
  | k :: ks, i => if hasT k l = true then i else firstT l ks (i + 1)
theorem firstT_ge (l : List Int) : ∀ (ks : List Tr) (i : Nat), (0 ≤ firstT l ks i ↔ hasTs ks l = true)
  | [], i => by simp [firstT, hasTs]
  | k :: ks, i => by
    rw [firstT, hasTs]
    by_cases h : hasT k l = true
    · rw [if_pos h, h]; simp
    · rw [if_neg h]; have := firstT_ge l ks (i + 1); simp [h] at this ⊢; exact this
theorem dec_first (l : List Int) (ks : List Tr) : decide (0 ≤ firstT l ks 0) = hasTs ks l := by
  rw [Bool.eq_iff_iff, ← firstT_ge l ks 0]; simp
abbrev capI (l : List Int) : AV := .rop 1 [.ro 1 (ints l) [] false] 0 0
theorem has1_of (l : List Int) (kd nm : Int) (t : ByteArray) (zs : List Tr) (hi : Fn 68 [Tr.av (.mk kd nm t zs), .ro 1 (ints l) [] false] (bool (hasT (.mk kd nm t zs) l))) : Fn 85 [Tr.av (.mk kd nm t zs), capI l] (bool (hasT (.mk kd nm t zs) l)) := by
  refine AF.intro Tryz.func85 nm85 rfl rfl rfl rfl fun w0 ok0 => ?_
  refine AWP.seq ?_
  refine AWP.region ?_
  refine AOps.box rfl rfl rfl rfl fun b1 => ?_
  refine Y (ass rfl) rfl ?_
  refine AOps.nil ?_
  refine AWP.seq ?_
  refine AWP.region ?_
  refine Y (Yields.load_ptr_agg (j := 0) kd28 rfl rfl rfl rfl) rfl ?_
  refine Y (Yields.load_rop_one kd82 rfl rfl rfl) rfl ?_
  refine AOps.callro (hi) rfl rfl rfl ?_
  refine Y (ass rfl) rfl ?_
  refine AOps.nil ?_
  refine AWP.ret ⟨.inl rfl, ?_⟩
  exact RetIs.oneV rfl rfl (by (rfl) <;> rfl)
theorem indexK_of (l : List Int) (hl : l.length ≤ 1000) (ks : List Tr) (hks : ks.length ≤ 1000000) (ih : ∀ k ∈ ks, Fn 68 [k.av, .ro 1 (ints l) [] false] (bool (hasT k l))) : Fn 93 [.ro 4 (Tr.avs ks) [] false, .fn 85 [capI l]] (int (firstT l ks 0)) := by
  have hlk := Tr.avs_length ks
  refine AF.intro Tryz.func93 nm93 rfl rfl rfl rfl fun w0 ok0 => ?_
  refine AWP.seq ?_
  refine AWP.region ?_
  refine Y (ass rfl) rfl ?_
  refine AOps.nil ?_
  refine AWP.seq ?_
  refine AWP.seq ?_
  refine AWP.region ?_
  refine Y (mv rfl) rfl ?_
  refine Y (Yields.len_ro sl26 rfl) rfl ?_
  refine Y (mv rfl) rfl ?_
  refine AOps.nil ?_
  refine AWP.block ?_
  refine AWP.loopV (α := Nat) (fun i : Nat => ⟨[(0, .ro 4 (Tr.avs ks) [] false), (1, .fn 85 [capI l]), (7, int (Tr.avs ks).length), (8, int i)], []⟩) (fun i : Nat => i ≤ ks.length ∧ firstT l (ks.drop i) i = firstT l ks 0) (fun i : Nat => ks.length - i) (0) ?_ ?_ ?_
  · exact Leads.rows 0 ⟨rfl, rfl, rfl, rfl, trivial⟩
  ·
   show 0 ≤ ks.length ∧ firstT l (ks.drop 0) 0 = firstT l ks 0
   exact ⟨Nat.zero_le _, rfl⟩
  ·
   rintro i hinv
   refine AWP.seq ?_
   refine AWP.region ?_
   obtain ⟨hi, hp⟩ := hinv
   refine Y (bn rfl rfl BinR.lss rfl) rfl ?_
   refine AOps.nil ?_
   refine AWP.seq ?_
   refine AWP.condT rfl (fun g => ?_) (fun g => ?_)
   ·
    replace g := of_decide_eq_true g
    obtain ⟨⟨zk, zn, zt, zks⟩, hx, hd⟩ := drop_at (l := ks) (i := i) (by omega)
    rw [hd, firstT] at hp
    refine AWP.skip ?_
    refine AWP.seq ?_
    refine AWP.block ?_
    refine AWP.seq ?_
    refine AWP.region ?_
    refine Y (mv rfl) rfl ?_
    refine Y (ass rfl) rfl ?_
    refine AOps.nil ?_
    refine AWP.seq ?_
    refine AWP.region ?_
    refine Y (mv rfl) rfl ?_
    refine Y (mv rfl) rfl ?_
    refine Y (mv rfl) rfl ?_
    refine Y (Yields.idx_roN sl26 rfl rfl rfl rfl (by omega)) rfl ?_
    refine Y (Yields.load_rop_aggV kd28 rfl (Tr.avs_at hx) rfl) rfl ?_
    refine AOps.step (DStep.callf (has1_of l zk zn zt zks (ih (.mk zk zn zt zks) (List.mem_of_getElem? hx))) rfl rfl (WkL.refl [Tr.av (.mk zk zn zt zks), capI l]) rfl) rfl ?_
    refine AOps.nil ?_
    refine AWP.condT rfl (fun g2 => ?_) (fun g2 => ?_)
    ·
     skip
     refine AWP.seq ?_
     refine AWP.region ?_
     rw [if_pos g2] at hp
     refine Y (mv rfl) rfl ?_
     refine Y (ass rfl) rfl ?_
     refine AOps.nil ?_
     refine AWP.ret ⟨.inl rfl, ?_⟩
     exact RetIs.oneV rfl rfl (by (rw [← hp]) <;> rfl)
    ·
     skip
     rw [if_neg (by rw [g2]; simp)] at hp
     refine AWP.skip ?_
     refine AWP.region ?_
     refine Y (bn rfl rfl (BinR.addI (by omega) (by omega)) rfl) rfl ?_
     refine Y (mv rfl) rfl ?_
     refine AOps.nil ?_
     refine ⟨i + 1, ?_, ?_, ?_⟩
     ·
      show ks.length - (i + 1) < ks.length - i
      omega
     ·
      show (i + 1) ≤ ks.length ∧ firstT l (ks.drop (i + 1)) (i + 1) = firstT l ks 0
      exact ⟨by omega, hp⟩
     · exact Leads.rows 0 ⟨rfl, rfl, rfl, rfl, trivial⟩
   ·
    replace g := of_decide_eq_false g
    rw [List.drop_eq_nil_of_le (by omega), firstT] at hp
    refine AWP.exit ?_
    refine AWP.seq ?_
    refine AWP.region ?_
    refine Y (ass rfl) rfl ?_
    refine AOps.nil ?_
    refine AWP.ret ⟨.inl rfl, ?_⟩
    exact RetIs.oneV rfl rfl (by (rw [← hp]) <;> rfl)
theorem hasK_of (l : List Int) (hl : l.length ≤ 1000) (ks : List Tr) (hks : ks.length ≤ 1000000) (ih : ∀ k ∈ ks, Fn 68 [k.av, .ro 1 (ints l) [] false] (bool (hasT k l))) : Fn 84 [.ro 4 (Tr.avs ks) [] false, .fn 85 [capI l]] (bool (hasTs ks l)) := by
  have hI := indexK_of l hl ks hks ih
  refine AF.intro Tryz.func84 nm84 rfl rfl rfl rfl fun w0 ok0 => ?_
  refine AWP.seq ?_
  refine AWP.region ?_
  refine Y (ass rfl) rfl ?_
  refine AOps.nil ?_
  refine AWP.seq ?_
  refine AWP.region ?_
  refine Y (mv rfl) rfl ?_
  refine Y (mv rfl) rfl ?_
  refine AOps.callro (hI) rfl rfl rfl ?_
  refine Y (bn rfl rfl BinR.geq rfl) rfl ?_
  refine Y (ass rfl) rfl ?_
  refine AOps.nil ?_
  refine AWP.ret ⟨.inl rfl, ?_⟩
  exact RetIs.oneV rfl rfl (by (rw [dec_first]) <;> rfl)
theorem has_AF (l : List Int) (hl : l.length ≤ 1000) (k : Tr) : k.bnd 1000000 → Fn 68 [k.av, .ro 1 (ints l) [] false] (bool (hasT k l)) := by
  induction k using Tr.ind
  rename_i kd nm t ks ih
  intro hk
  simp only [Tr.bnd] at hk
  have hlk := Tr.avs_length ks
  have hC := hasK_of l hl ks hk.2.1 (fun k hm => ih k hm (by obtain ⟨i, hi⟩ := List.getElem?_of_mem hm; exact Tr.bnds_get hk.2.2 hi))
  refine AF.intro Tryz.func68 nm68 rfl rfl rfl rfl fun w0 ok0 => ?_
  refine AWP.seq ?_
  refine AWP.region ?_
  refine AOps.box rfl rfl rfl rfl fun b1 => ?_
  refine AOps.box rfl rfl rfl rfl fun b2 => ?_
  refine Y (ass rfl) rfl ?_
  refine AOps.nil ?_
  refine AWP.seq ?_
  refine AWP.region ?_
  refine AOps.leads (Leads.freezeT 1 3 (.inr rfl) rfl ((Bor.ptr (j := 0) rfl (viewL_refl rfl)).fz)) ?_
  refine Y (Yields.load_rop_one kd82 rfl rfl rfl) rfl ?_
  refine Y (Yields.fieldAddr_ptr fo28_0 rfl) rfl ?_
  refine Y (Yields.load_ptr_field (j := 0) kd3 rfl rfl rfl rfl rfl rfl rfl) rfl ?_
  refine AOps.callro (containsI_AF l kd (by omega)) rfl rfl rfl ?_
  refine Y (mv rfl) rfl ?_
  refine AOps.split 9 rfl (fun g => ?_) (fun g => ?_)
  ·
   skip
   refine AOps.off' rfl rfl rfl rfl ?_
   refine AOps.off' rfl rfl rfl rfl ?_
   refine AOps.off' rfl rfl rfl rfl ?_
   refine AOps.off' rfl rfl rfl rfl ?_
   refine Y (Yields.pick_true rfl rfl) rfl ?_
   refine Y (ass rfl) rfl ?_
   refine AOps.nil ?_
   refine AWP.ret ⟨.inl rfl, ?_⟩
   exact RetIs.oneV rfl rfl (by (rw [hasT, g]; rfl) <;> rfl)
  ·
   skip
   refine AOps.on rfl rfl ?_
   refine Y (Yields.fieldAddr_ptr fo28_3 rfl) rfl ?_
   refine AOps.on rfl rfl ?_
   refine Y (Yields.load_ptr_field (j := 0) kd26 rfl rfl rfl rfl rfl rfl rfl) rfl ?_
   refine AOps.on rfl rfl ?_
   refine Y (Yields.makeFunc rfl rfl) rfl ?_
   refine AOps.on rfl rfl ?_
   refine AOps.callro (hC) rfl rfl rfl ?_
   refine Y (Yields.pick_false rfl rfl) rfl ?_
   refine Y (ass rfl) rfl ?_
   refine AOps.nil ?_
   refine AWP.ret ⟨.inl rfl, ?_⟩
   exact RetIs.oneV rfl rfl (by (rw [hasT, g]; rfl) <;> rfl)
def plainX (k : Tr) : Bool := !hasT k [4, 14, 15]
theorem iplain_AF (k : Tr) (hk : k.bnd 1000000) : Fn 43 [k.av] (bool (plainX k)) := by
  have hF := has_AF [4, 14, 15] (by decide) k hk
  obtain ⟨kd, nm, t, ks⟩ := k
  refine AF.intro Tryz.func43 nm43 rfl rfl rfl rfl fun w0 ok0 => ?_
  refine AWP.seq ?_
  refine AWP.region ?_
  refine AOps.box rfl rfl rfl rfl fun b1 => ?_
  refine Y (ass rfl) rfl ?_
  refine AOps.nil ?_
  refine AWP.seq ?_
  refine AWP.region ?_
  refine Y (Yields.load_ptr_agg (j := 0) kd28 rfl rfl rfl rfl) rfl ?_
  refine AOps.step (DStep.buildRo sl82 z3 rfl rfl rfl rfl) rfl ?_
  refine AOps.callro (hF) rfl rfl rfl ?_
  refine Y (Yields.not rfl) rfl ?_
  refine Y (ass rfl) rfl ?_
  refine AOps.nil ?_
  refine AWP.ret ⟨.inl rfl, ?_⟩
  exact RetIs.oneV rfl rfl (by (rfl) <;> rfl)
mutual
def kindsT : Tr → Int → Bool
  | .mk k _ _ ks, n => decide (k = n) || kindsTs ks n
def kindsTs : List Tr → Int → Bool
  | [], _ => false
  | k :: ks, n => kindsT k n || kindsTs ks n
end
mutual
theorem has_kinds : ∀ (k : Tr), hasT k [4, 14, 15] = (kindsT k 4 || (kindsT k 14 || kindsT k 15))
  | .mk k n t ks => by
    rw [hasT, kindsT, kindsT, kindsT, hass_kinds ks, memI]
    simp only [List.mem_cons, List.not_mem_nil, or_false, Bool.decide_or]
    cases decide (k = 4) <;> cases decide (k = 14) <;> cases decide (k = 15) <;> cases kindsTs ks 4 <;> cases kindsTs ks 14 <;> cases kindsTs ks 15 <;> rfl
theorem hass_kinds : ∀ (ks : List Tr), hasTs ks [4, 14, 15] = (kindsTs ks 4 || (kindsTs ks 14 || kindsTs ks 15))
  | [] => rfl
  | k :: ks => by
    rw [hasTs, kindsTs, kindsTs, kindsTs, has_kinds k, hass_kinds ks]
    cases kindsT k 4 <;> cases kindsT k 14 <;> cases kindsT k 15 <;> cases kindsTs ks 4 <;> cases kindsTs ks 14 <;> cases kindsTs ks 15 <;> rfl
end
theorem kinds_AF (n : Int) (k : Tr) : k.bnd 1000000 → Fn 59 [k.av, int n] (bool (kindsT k n)) := by
  induction k using Tr.ind
  rename_i kd nm t ks ih
  intro hk
  simp only [Tr.bnd] at hk
  have hlk := Tr.avs_length ks
  refine AF.intro Tryz.func59 nm59 rfl rfl rfl rfl fun w0 ok0 => ?_
  refine AWP.seq ?_
  refine AWP.region ?_
  refine AOps.box rfl rfl rfl rfl fun b1 => ?_
  refine Y (ass rfl) rfl ?_
  refine AOps.nil ?_
  refine AWP.seq ?_
  refine AWP.seq ?_
  refine AWP.region ?_
  refine Y (Yields.fieldAddr_ptr fo28_0 rfl) rfl ?_
  refine Y (Yields.load_ptr_field (j := 0) kd3 rfl rfl rfl rfl rfl rfl rfl) rfl ?_
  refine Y (mv rfl) rfl ?_
  refine Y (bn rfl rfl BinR.eql rfl) rfl ?_
  refine AOps.nil ?_
  refine AWP.condT rfl (fun c => ?_) (fun c => ?_)
  ·
   replace c := eq_of_beq c
   refine AWP.seq ?_
   refine AWP.region ?_
   refine Y (ass rfl) rfl ?_
   refine AOps.nil ?_
   refine AWP.ret ⟨.inl rfl, ?_⟩
   exact RetIs.oneV rfl rfl (by (rw [kindsT, decide_eq_true c]; rfl) <;> rfl)
  ·
   replace c := ne_of_beq_false c
   refine AWP.skip ?_
   refine AWP.seq ?_
   refine AWP.seq ?_
   refine AWP.region ?_
   refine Y (ass rfl) rfl ?_
   refine AOps.nil ?_
   refine AWP.block ?_
   refine AWP.loopV (α := Nat) (fun i : Nat => ⟨[(1, int n), (2, .ptr (some b1) 0 0 4), (5, int i)], [(some b1, ⟨4, [Tr.av (.mk kd nm t ks)]⟩)]⟩) (fun i : Nat => i ≤ ks.length ∧ kindsTs (ks.drop i) n = kindsTs ks n) (fun i : Nat => ks.length - i) (0) ?_ ?_ ?_
   · exact Leads.rows 0 ⟨rfl, rfl, rfl, trivial⟩
   ·
    show 0 ≤ ks.length ∧ kindsTs (ks.drop 0) n = kindsTs ks n
    exact ⟨Nat.zero_le _, rfl⟩
   ·
    rintro i hinv
    refine AWP.seq ?_
    refine AWP.seq ?_
    refine AWP.region ?_
    obtain ⟨hi, hp⟩ := hinv
    refine Y (mv rfl) rfl ?_
    refine Y (Yields.fieldAddr_ptr fo28_3 rfl) rfl ?_
    refine Y (Yields.load_ptr_field (j := 0) kd26 rfl rfl rfl rfl rfl rfl rfl) rfl ?_
    refine Y (Yields.len_ro sl26 rfl) rfl ?_
    refine Y (bn rfl rfl BinR.lss rfl) rfl ?_
    refine AOps.nil ?_
    refine AWP.condT rfl (fun g => ?_) (fun g => ?_)
    ·
     replace g := of_decide_eq_true g
     obtain ⟨⟨zk, zn, zt, zks⟩, hx, hd⟩ := drop_at (l := ks) (i := i) (by omega)
     rw [hd, kindsTs] at hp
     refine AWP.skip ?_
     refine AWP.seq ?_
     refine AWP.block ?_
     refine AWP.seq ?_
     refine AWP.region ?_
     refine Y (Yields.fieldAddr_ptr fo28_3 rfl) rfl ?_
     refine Y (Yields.load_ptr_field (j := 0) kd26 rfl rfl rfl rfl rfl rfl rfl) rfl ?_
     refine Y (mv rfl) rfl ?_
     refine Y (Yields.idx_roN sl26 rfl rfl rfl rfl (by omega)) rfl ?_
     refine Y (Yields.load_rop_aggV kd28 rfl (Tr.avs_at hx) rfl) rfl ?_
     refine Y (mv rfl) rfl ?_
     refine AOps.callro (ih (.mk zk zn zt zks) (List.mem_of_getElem? hx) (Tr.bnds_get hk.2.2 hx)) rfl rfl rfl ?_
     refine AOps.nil ?_
     refine AWP.condT rfl (fun g2 => ?_) (fun g2 => ?_)
     ·
      skip
      refine AWP.seq ?_
      refine AWP.region ?_
      refine Y (ass rfl) rfl ?_
      refine AOps.nil ?_
      refine AWP.ret ⟨.inl rfl, ?_⟩
      exact RetIs.oneV rfl rfl (by (rw [kindsT, decide_eq_false c, ← hp, g2]; rfl) <;> rfl)
     ·
      skip
      rw [g2, Bool.false_or] at hp
      refine AWP.skip ?_
      refine AWP.region ?_
      refine Y (mv rfl) rfl ?_
      refine Y (bn rfl rfl (BinR.addI (by omega) (by omega)) rfl) rfl ?_
      refine Y (ass rfl) rfl ?_
      refine AOps.nil ?_
      refine ⟨i + 1, ?_, ?_, ?_⟩
      ·
       show ks.length - (i + 1) < ks.length - i
       omega
      ·
       show (i + 1) ≤ ks.length ∧ kindsTs (ks.drop (i + 1)) n = kindsTs ks n
       exact ⟨by omega, hp⟩
      · exact Leads.rows 0 ⟨rfl, rfl, rfl, trivial⟩
    ·
     replace g := of_decide_eq_false g
     rw [List.drop_eq_nil_of_le (by omega), kindsTs] at hp
     refine AWP.exit ?_
     refine AWP.seq ?_
     refine AWP.region ?_
     refine Y (ass rfl) rfl ?_
     refine AOps.nil ?_
     refine AWP.ret ⟨.inl rfl, ?_⟩
     exact RetIs.oneV rfl rfl (by (rw [kindsT, decide_eq_false c, ← hp]; rfl) <;> rfl)
theorem splain_AF (k : Tr) (hk : k.bnd 1000000) : Fn 37 [k.av] (bool (plainX k)) := by
  have h1 := kinds_AF 4 k hk
  have h2 := kinds_AF 14 k hk
  have h3 := kinds_AF 15 k hk
  have e := has_kinds k
  obtain ⟨kd, nm, t, ks⟩ := k
  refine AF.intro Tryz.func37 nm37 rfl rfl rfl rfl fun w0 ok0 => ?_
  refine AWP.seq ?_
  refine AWP.region ?_
  refine AOps.box rfl rfl rfl rfl fun b1 => ?_
  refine Y (ass rfl) rfl ?_
  refine AOps.nil ?_
  refine AWP.seq ?_
  refine AWP.region ?_
  refine Y (Yields.load_ptr_agg (j := 0) kd28 rfl rfl rfl rfl) rfl ?_
  refine AOps.callro (h1) rfl rfl rfl ?_
  refine Y (Yields.not rfl) rfl ?_
  refine Y (mv rfl) rfl ?_
  refine AOps.split 6 rfl (fun g1 => ?_) (fun g1 => ?_)
  ·
   skip
   refine AOps.on rfl rfl ?_
   refine Y (Yields.load_ptr_agg (j := 0) kd28 rfl rfl rfl rfl) rfl ?_
   refine AOps.on rfl rfl ?_
   refine AOps.callro (h2) rfl rfl rfl ?_
   refine AOps.on rfl rfl ?_
   refine Y (Yields.not rfl) rfl ?_
   refine Y (Yields.pick_true rfl rfl) rfl ?_
   refine Y (mv rfl) rfl ?_
   refine AOps.split 11 rfl (fun g2 => ?_) (fun g2 => ?_)
   ·
    skip
    refine AOps.on rfl rfl ?_
    refine Y (Yields.load_ptr_agg (j := 0) kd28 rfl rfl rfl rfl) rfl ?_
    refine AOps.on rfl rfl ?_
    refine AOps.callro (h3) rfl rfl rfl ?_
    refine AOps.on rfl rfl ?_
    refine Y (Yields.not rfl) rfl ?_
    refine Y (Yields.pick_true rfl rfl) rfl ?_
    refine Y (ass rfl) rfl ?_
    refine AOps.nil ?_
    refine AWP.ret ⟨.inl rfl, ?_⟩
    exact RetIs.oneV rfl rfl (by (rw [plainX, e]; simp at g1 g2; simp [g1, g2]) <;> rfl)
   ·
    skip
    refine AOps.off' rfl rfl rfl rfl ?_
    refine AOps.off' rfl rfl rfl rfl ?_
    refine AOps.off' rfl rfl rfl rfl ?_
    refine Y (Yields.pick_false rfl rfl) rfl ?_
    refine Y (ass rfl) rfl ?_
    refine AOps.nil ?_
    refine AWP.ret ⟨.inl rfl, ?_⟩
    exact RetIs.oneV rfl rfl (by (rw [plainX, e]; simp at g2; simp [g2]) <;> rfl)
  ·
   skip
   refine AOps.off' rfl rfl rfl rfl ?_
   refine AOps.off' rfl rfl rfl rfl ?_
   refine AOps.off' rfl rfl rfl rfl ?_
   refine Y (Yields.pick_false rfl rfl) rfl ?_
   refine Y (mv rfl) rfl ?_
   refine AOps.off' rfl rfl rfl rfl ?_
   refine AOps.off' rfl rfl rfl rfl ?_
   refine AOps.off' rfl rfl rfl rfl ?_
   refine Y (Yields.pick_false rfl rfl) rfl ?_
   refine Y (ass rfl) rfl ?_
   refine AOps.nil ?_
   refine AWP.ret ⟨.inl rfl, ?_⟩
   exact RetIs.oneV rfl rfl (by (rw [plainX, e]; simp at g1; simp [g1]) <;> rfl)
end Go.Proofs.YtccdgppplkfjfaaGreat
