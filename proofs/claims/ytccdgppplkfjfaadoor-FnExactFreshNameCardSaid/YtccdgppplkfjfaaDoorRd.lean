/- Trees compared, and found intact. -/
import Derived.Test.YtccdgppplkfjfaaDoorTo
namespace Go.Proofs.YtccdgppplkfjfaaDoor
open Go Go.Ax Go.Proofs
set_option linter.unusedVariables false
set_option linter.unusedSimpArgs false
set_option maxRecDepth 20000

mutual
def sameT : Tr → Tr → Bool
  | .mk k n t ks, .mk k' n' t' ks' => decide (k = k') && (decide (n = n') && (decide (t = t') && sameTs ks ks'))
def sameTs : List Tr → List Tr → Bool
  | [], [] => true
  | k :: ks, k' :: ks' => sameT k k' && sameTs ks ks'
  | _, _ => false
end
theorem sameTs_len : ∀ {us vs : List Tr}, us.length ≠ vs.length → sameTs us vs = false
  | [], [], h => absurd rfl h
  | [], b :: vs, _ => by simp [sameTs]
  | a :: us, [], _ => by simp [sameTs]
  | a :: us, b :: vs, h => by rw [sameTs, sameTs_len (us := us) (vs := vs) (by simpa using h), Bool.and_false]
mutual
theorem sameT_refl : ∀ k : Tr, sameT k k = true
  | .mk k n t ks => by simp [sameT, sameTs_refl ks]
theorem sameTs_refl : ∀ ks : List Tr, sameTs ks ks = true
  | [] => by simp [sameTs]
  | k :: ks => by simp [sameTs, sameT_refl k, sameTs_refl ks]
end

theorem eqS_ofValue (us vs : List Tr) (hv : ∀ k ∈ us, ∀ k' : Tr, Fn 77 [k.av, k'.av] (bool (sameT k k'))) (hl : us.length ≤ 3000000) :
    Fn 58 [.ro 4 (Tr.avs us) [] false, .ro 4 (Tr.avs vs) [] false] (bool (sameTs us vs)) := by
  have hla := Tr.avs_length us
  have hlb := Tr.avs_length vs
  refine AF.intro Tryd.func58 nm58 rfl rfl rfl rfl fun w0 ok0 => ?_
  refine AWP.seq ?_
  refine AWP.region ?_
  refine Y (ass rfl) rfl ?_
  refine AOps.nil ?_
  refine AWP.seq ?_
  refine AWP.seq ?_
  refine AWP.region ?_
  refine Y (mv rfl) rfl ?_
  refine Y (Yields.len_ro sl38 rfl) rfl ?_
  refine Y (mv rfl) rfl ?_
  refine Y (Yields.len_ro sl38 rfl) rfl ?_
  refine Y (bn rfl rfl BinR.neq rfl) rfl ?_
  refine AOps.nil ?_
  refine AWP.condT rfl (fun h => ?_) (fun h => ?_)
  ·
   replace h := bne_iff_ne.1 h
   refine AWP.seq ?_
   refine AWP.region ?_
   refine Y (ass rfl) rfl ?_
   refine AOps.nil ?_
   refine AWP.ret ⟨.inl rfl, ?_⟩
   exact RetIs.oneV rfl rfl (by (rw [sameTs_len (by omega)]) <;> rfl)
  ·
   replace h := bne_eq_false_iff_eq.1 h
   refine AWP.skip ?_
   refine AWP.seq ?_
   refine AWP.seq ?_
   refine AWP.region ?_
   refine Y (ass rfl) rfl ?_
   refine AOps.nil ?_
   refine AWP.block ?_
   refine AWP.loopV (α := Nat) (fun i : Nat => ⟨[(0, .ro 4 (Tr.avs us) [] false), (1, .ro 4 (Tr.avs vs) [] false), (5, int i)], []⟩) (fun i : Nat => i ≤ us.length ∧ sameTs (us.drop i) (vs.drop i) = sameTs us vs) (fun i : Nat => us.length - i) (0) ?_ ?_ ?_
   · exact Leads.rows 0 ⟨rfl, rfl, rfl, trivial⟩
   ·
    show 0 ≤ us.length ∧ sameTs (us.drop 0) (vs.drop 0) = sameTs us vs
    exact ⟨Nat.zero_le _, rfl⟩
   ·
    rintro i hinv
    refine AWP.seq ?_
    refine AWP.seq ?_
    refine AWP.region ?_
    obtain ⟨hi, hp⟩ := hinv
    refine Y (mv rfl) rfl ?_
    refine Y (mv rfl) rfl ?_
    refine Y (Yields.len_ro sl38 rfl) rfl ?_
    refine Y (bn rfl rfl BinR.lss rfl) rfl ?_
    refine AOps.nil ?_
    refine AWP.condT rfl (fun g => ?_) (fun g => ?_)
    ·
     replace g := of_decide_eq_true g
     have hlt : i < us.length := by omega
     obtain ⟨k, hk, hd⟩ := drop_at hlt
     obtain ⟨k', hk', hd'⟩ := drop_at (l := vs) (i := i) (by omega)
     rw [hd, hd', sameTs] at hp
     refine AWP.skip ?_
     refine AWP.seq ?_
     refine AWP.block ?_
     refine AWP.seq ?_
     refine AWP.prune (tm' := [(0, _), (1, _), (5, _), (14, _)]) ⟨rfl, rfl, rfl, rfl, trivial⟩ ?_
     refine AWP.drawn mixed rfl rfl ?_
     refine D (tm' := [(0, _)]) ⟨rfl, trivial⟩ (DStep.yields (mv rfl)) rfl ?_
     refine D (tm' := [(5, _)]) ⟨rfl, trivial⟩ (DStep.yields (mv rfl)) rfl ?_
     refine D (tm' := [(17, _), (18, _)]) ⟨rfl, rfl, trivial⟩ (DStep.yields (Yields.idx_roN sl38 rfl rfl rfl rfl (by omega))) rfl ?_
     refine D (tm' := [(19, _)]) ⟨rfl, trivial⟩ (DStep.yields (Yields.load_rop_aggV kd40 rfl (Tr.avs_at hk) (Tr.av_agg k))) rfl ?_
     refine D (tm' := [(1, _)]) ⟨rfl, trivial⟩ (DStep.yields (mv rfl)) rfl ?_
     refine D (tm' := [(5, _)]) ⟨rfl, trivial⟩ (DStep.yields (mv rfl)) rfl ?_
     refine D (tm' := [(21, _), (22, _)]) ⟨rfl, rfl, trivial⟩ (DStep.yields (Yields.idx_roN sl38 rfl rfl rfl rfl (by omega))) rfl ?_
     refine D (tm' := [(23, _)]) ⟨rfl, trivial⟩ (DStep.yields (Yields.load_rop_aggV kd40 rfl (Tr.avs_at hk') (Tr.av_agg k'))) rfl ?_
     refine D (tm' := [(20, _), (24, _)]) ⟨rfl, rfl, trivial⟩ (DStep.callro (hv k (List.mem_of_getElem? hk) k') rfl rfl) rfl ?_
     refine D (tm' := [(25, _)]) ⟨rfl, trivial⟩ (DStep.yields (Yields.not rfl)) rfl ?_
     refine DOps.nil ?_
     refine AWP.condT rfl (fun g2 => ?_) (fun g2 => ?_)
     ·
      skip
      refine AWP.seq ?_
      refine AWP.region ?_
      have g2 : sameT k k' = false := by simpa using g2
      refine Y (ass rfl) rfl ?_
      refine AOps.nil ?_
      refine AWP.ret ⟨.inl rfl, ?_⟩
      exact RetIs.oneV rfl rfl (by (rw [← hp, g2]) <;> rfl)
     ·
      skip
      have g2 : sameT k k' = true := by simpa using g2
      refine AWP.skip ?_
      refine AWP.region ?_
      refine Y (mv rfl) rfl ?_
      refine Y (bn rfl rfl (BinR.addI (by omega) (by omega)) rfl) rfl ?_
      refine Y (ass rfl) rfl ?_
      refine AOps.nil ?_
      refine ⟨i + 1, ?_, ?_, ?_⟩
      ·
       show us.length - (i + 1) < us.length - i
       omega
      ·
       show (i + 1) ≤ us.length ∧ sameTs (us.drop (i + 1)) (vs.drop (i + 1)) = sameTs us vs
       exact ⟨hlt, by rw [← hp, g2, Bool.true_and]⟩
      · exact Leads.rows 0 ⟨rfl, rfl, rfl, trivial⟩
    ·
     replace g := of_decide_eq_false g
     rw [List.drop_eq_nil_of_le (by omega), List.drop_eq_nil_of_le (by omega), sameTs] at hp
     refine AWP.exit ?_
     refine AWP.seq ?_
     refine AWP.region ?_
     refine Y (ass rfl) rfl ?_
     refine AOps.nil ?_
     refine AWP.ret ⟨.inl rfl, ?_⟩
     exact RetIs.oneV rfl rfl (by (rw [← hp]) <;> rfl)
theorem eq_AFValue (k : Tr) : ∀ k' : Tr, k.bnd 1000000 → Fn 77 [k.av, k'.av] (bool (sameT k k')) := by
  induction k using Tr.ind
  rename_i kd nm t ks ih
  intro k' hk
  obtain ⟨kd', nm', t', ks'⟩ := k'
  simp only [Tr.bnd] at hk
  obtain ⟨hk1, hk2, hk3⟩ := hk
  have hS := eqS_ofValue ks ks' (fun k hk k' => ih k hk k' (Tr.bnds_mem hk3 k hk)) (by omega)
  refine AF.intro Tryd.func77 nm77 rfl rfl rfl rfl fun w0 ok0 => ?_
  refine AWP.seq ?_
  refine AWP.region ?_
  refine AOps.box rfl rfl rfl rfl fun b1 => ?_
  refine AOps.box rfl rfl rfl rfl fun b2 => ?_
  refine Y (ass rfl) rfl ?_
  refine AOps.nil ?_
  refine AWP.seq ?_
  refine AWP.seq ?_
  refine AWP.region ?_
  refine Y (Yields.fieldAddr_ptr fo40_0 rfl) rfl ?_
  refine Y (Yields.load_ptr_field (j := 1) kd3 rfl rfl rfl rfl rfl rfl rfl) rfl ?_
  refine Y (Yields.fieldAddr_ptr fo40_0 rfl) rfl ?_
  refine Y (Yields.load_ptr_field (j := 0) kd3 rfl rfl rfl rfl rfl rfl rfl) rfl ?_
  refine Y (bn rfl rfl BinR.neq rfl) rfl ?_
  refine AOps.nil ?_
  refine AWP.condT rfl (fun h1 => ?_) (fun h1 => ?_)
  ·
   replace h1 := bne_iff_ne.1 h1
   refine AWP.seq ?_
   refine AWP.region ?_
   refine Y (ass rfl) rfl ?_
   refine AOps.nil ?_
   refine AWP.ret ⟨.inl rfl, ?_⟩
   exact RetIs.oneV rfl rfl (by (simp [sameT, h1]) <;> rfl)
  ·
   replace h1 := bne_eq_false_iff_eq.1 h1
   refine AWP.skip ?_
   refine AWP.seq ?_
   refine AWP.seq ?_
   refine AWP.region ?_
   refine Y (Yields.fieldAddr_ptr fo40_1 rfl) rfl ?_
   refine Y (Yields.load_ptr_field (j := 1) kd3 rfl rfl rfl rfl rfl rfl rfl) rfl ?_
   refine Y (Yields.fieldAddr_ptr fo40_1 rfl) rfl ?_
   refine Y (Yields.load_ptr_field (j := 0) kd3 rfl rfl rfl rfl rfl rfl rfl) rfl ?_
   refine Y (bn rfl rfl BinR.neq rfl) rfl ?_
   refine AOps.nil ?_
   refine AWP.condT rfl (fun h2 => ?_) (fun h2 => ?_)
   ·
    replace h2 := bne_iff_ne.1 h2
    refine AWP.seq ?_
    refine AWP.region ?_
    refine Y (ass rfl) rfl ?_
    refine AOps.nil ?_
    refine AWP.ret ⟨.inl rfl, ?_⟩
    exact RetIs.oneV rfl rfl (by (simp [sameT, h2]) <;> rfl)
   ·
    replace h2 := bne_eq_false_iff_eq.1 h2
    refine AWP.skip ?_
    refine AWP.seq ?_
    refine AWP.seq ?_
    refine AWP.region ?_
    refine Y (Yields.fieldAddr_ptr fo40_2 rfl) rfl ?_
    refine Y (Yields.load_ptr_field (j := 1) kd9 rfl rfl rfl rfl rfl rfl rfl) rfl ?_
    refine Y (Yields.fieldAddr_ptr fo40_2 rfl) rfl ?_
    refine Y (Yields.load_ptr_field (j := 0) kd9 rfl rfl rfl rfl rfl rfl rfl) rfl ?_
    refine Y (bn rfl rfl BinR.sneq rfl) rfl ?_
    refine AOps.nil ?_
    refine AWP.condT rfl (fun h3 => ?_) (fun h3 => ?_)
    ·
     replace h3 := of_decide_eq_true h3
     refine AWP.seq ?_
     refine AWP.region ?_
     refine Y (ass rfl) rfl ?_
     refine AOps.nil ?_
     refine AWP.ret ⟨.inl rfl, ?_⟩
     exact RetIs.oneV rfl rfl (by (simp [sameT, h3]) <;> rfl)
    ·
     replace h3 := Decidable.of_not_not (of_decide_eq_false h3)
     refine AWP.skip ?_
     refine AWP.seq ?_
     refine AWP.seq ?_
     refine AWP.region ?_
     refine Y (Yields.fieldAddr_ptr fo40_3 rfl) rfl ?_
     refine Y (Yields.load_ptr_field (j := 1) kd38 rfl rfl rfl rfl rfl rfl rfl) rfl ?_
     refine Y (Yields.fieldAddr_ptr fo40_3 rfl) rfl ?_
     refine Y (Yields.load_ptr_field (j := 0) kd38 rfl rfl rfl rfl rfl rfl rfl) rfl ?_
     refine AOps.callro (hS) rfl rfl rfl ?_
     refine Y (Yields.not rfl) rfl ?_
     refine AOps.nil ?_
     refine AWP.condT rfl (fun h4 => ?_) (fun h4 => ?_)
     ·
      skip
      refine AWP.seq ?_
      refine AWP.region ?_
      refine Y (ass rfl) rfl ?_
      refine AOps.nil ?_
      refine AWP.ret ⟨.inl rfl, ?_⟩
      exact RetIs.oneV rfl rfl (by (simp_all [sameT]) <;> rfl)
     ·
      skip
      refine AWP.skip ?_
      refine AWP.seq ?_
      refine AWP.region ?_
      refine Y (ass rfl) rfl ?_
      refine AOps.nil ?_
      refine AWP.ret ⟨.inl rfl, ?_⟩
      exact RetIs.oneV rfl rfl (by (simp_all [sameT]) <;> rfl)
theorem eqS_AFValue (us vs : List Tr) (hk : Tr.bnds 1000000 us) (hl : us.length ≤ 3000000) : Fn 58 [.ro 4 (Tr.avs us) [] false, .ro 4 (Tr.avs vs) [] false] (bool (sameTs us vs)) :=
  eqS_ofValue us vs (fun k h k' => eq_AFValue k k' (Tr.bnds_mem hk k h)) hl
theorem eqS_ofExpr (us vs : List Tr) (hv : ∀ k ∈ us, ∀ k' : Tr, Fn 70 [k.av, k'.av] (bool (sameT k k'))) (hl : us.length ≤ 3000000) :
    Fn 51 [.ro 4 (Tr.avs us) [] false, .ro 4 (Tr.avs vs) [] false] (bool (sameTs us vs)) := by
  have hla := Tr.avs_length us
  have hlb := Tr.avs_length vs
  refine AF.intro Tryd.func51 nm51 rfl rfl rfl rfl fun w0 ok0 => ?_
  refine AWP.seq ?_
  refine AWP.region ?_
  refine Y (ass rfl) rfl ?_
  refine AOps.nil ?_
  refine AWP.seq ?_
  refine AWP.seq ?_
  refine AWP.region ?_
  refine Y (mv rfl) rfl ?_
  refine Y (Yields.len_ro sl27 rfl) rfl ?_
  refine Y (mv rfl) rfl ?_
  refine Y (Yields.len_ro sl27 rfl) rfl ?_
  refine Y (bn rfl rfl BinR.neq rfl) rfl ?_
  refine AOps.nil ?_
  refine AWP.condT rfl (fun h => ?_) (fun h => ?_)
  ·
   replace h := bne_iff_ne.1 h
   refine AWP.seq ?_
   refine AWP.region ?_
   refine Y (ass rfl) rfl ?_
   refine AOps.nil ?_
   refine AWP.ret ⟨.inl rfl, ?_⟩
   exact RetIs.oneV rfl rfl (by (rw [sameTs_len (by omega)]) <;> rfl)
  ·
   replace h := bne_eq_false_iff_eq.1 h
   refine AWP.skip ?_
   refine AWP.seq ?_
   refine AWP.seq ?_
   refine AWP.region ?_
   refine Y (ass rfl) rfl ?_
   refine AOps.nil ?_
   refine AWP.block ?_
   refine AWP.loopV (α := Nat) (fun i : Nat => ⟨[(0, .ro 4 (Tr.avs us) [] false), (1, .ro 4 (Tr.avs vs) [] false), (5, int i)], []⟩) (fun i : Nat => i ≤ us.length ∧ sameTs (us.drop i) (vs.drop i) = sameTs us vs) (fun i : Nat => us.length - i) (0) ?_ ?_ ?_
   · exact Leads.rows 0 ⟨rfl, rfl, rfl, trivial⟩
   ·
    show 0 ≤ us.length ∧ sameTs (us.drop 0) (vs.drop 0) = sameTs us vs
    exact ⟨Nat.zero_le _, rfl⟩
   ·
    rintro i hinv
    refine AWP.seq ?_
    refine AWP.seq ?_
    refine AWP.region ?_
    obtain ⟨hi, hp⟩ := hinv
    refine Y (mv rfl) rfl ?_
    refine Y (mv rfl) rfl ?_
    refine Y (Yields.len_ro sl27 rfl) rfl ?_
    refine Y (bn rfl rfl BinR.lss rfl) rfl ?_
    refine AOps.nil ?_
    refine AWP.condT rfl (fun g => ?_) (fun g => ?_)
    ·
     replace g := of_decide_eq_true g
     have hlt : i < us.length := by omega
     obtain ⟨k, hk, hd⟩ := drop_at hlt
     obtain ⟨k', hk', hd'⟩ := drop_at (l := vs) (i := i) (by omega)
     rw [hd, hd', sameTs] at hp
     refine AWP.skip ?_
     refine AWP.seq ?_
     refine AWP.block ?_
     refine AWP.seq ?_
     refine AWP.prune (tm' := [(0, _), (1, _), (5, _), (14, _)]) ⟨rfl, rfl, rfl, rfl, trivial⟩ ?_
     refine AWP.drawn mixed rfl rfl ?_
     refine D (tm' := [(0, _)]) ⟨rfl, trivial⟩ (DStep.yields (mv rfl)) rfl ?_
     refine D (tm' := [(5, _)]) ⟨rfl, trivial⟩ (DStep.yields (mv rfl)) rfl ?_
     refine D (tm' := [(17, _), (18, _)]) ⟨rfl, rfl, trivial⟩ (DStep.yields (Yields.idx_roN sl27 rfl rfl rfl rfl (by omega))) rfl ?_
     refine D (tm' := [(19, _)]) ⟨rfl, trivial⟩ (DStep.yields (Yields.load_rop_aggV kd29 rfl (Tr.avs_at hk) (Tr.av_agg k))) rfl ?_
     refine D (tm' := [(1, _)]) ⟨rfl, trivial⟩ (DStep.yields (mv rfl)) rfl ?_
     refine D (tm' := [(5, _)]) ⟨rfl, trivial⟩ (DStep.yields (mv rfl)) rfl ?_
     refine D (tm' := [(21, _), (22, _)]) ⟨rfl, rfl, trivial⟩ (DStep.yields (Yields.idx_roN sl27 rfl rfl rfl rfl (by omega))) rfl ?_
     refine D (tm' := [(23, _)]) ⟨rfl, trivial⟩ (DStep.yields (Yields.load_rop_aggV kd29 rfl (Tr.avs_at hk') (Tr.av_agg k'))) rfl ?_
     refine D (tm' := [(20, _), (24, _)]) ⟨rfl, rfl, trivial⟩ (DStep.callro (hv k (List.mem_of_getElem? hk) k') rfl rfl) rfl ?_
     refine D (tm' := [(25, _)]) ⟨rfl, trivial⟩ (DStep.yields (Yields.not rfl)) rfl ?_
     refine DOps.nil ?_
     refine AWP.condT rfl (fun g2 => ?_) (fun g2 => ?_)
     ·
      skip
      refine AWP.seq ?_
      refine AWP.region ?_
      have g2 : sameT k k' = false := by simpa using g2
      refine Y (ass rfl) rfl ?_
      refine AOps.nil ?_
      refine AWP.ret ⟨.inl rfl, ?_⟩
      exact RetIs.oneV rfl rfl (by (rw [← hp, g2]) <;> rfl)
     ·
      skip
      have g2 : sameT k k' = true := by simpa using g2
      refine AWP.skip ?_
      refine AWP.region ?_
      refine Y (mv rfl) rfl ?_
      refine Y (bn rfl rfl (BinR.addI (by omega) (by omega)) rfl) rfl ?_
      refine Y (ass rfl) rfl ?_
      refine AOps.nil ?_
      refine ⟨i + 1, ?_, ?_, ?_⟩
      ·
       show us.length - (i + 1) < us.length - i
       omega
      ·
       show (i + 1) ≤ us.length ∧ sameTs (us.drop (i + 1)) (vs.drop (i + 1)) = sameTs us vs
       exact ⟨hlt, by rw [← hp, g2, Bool.true_and]⟩
      · exact Leads.rows 0 ⟨rfl, rfl, rfl, trivial⟩
    ·
     replace g := of_decide_eq_false g
     rw [List.drop_eq_nil_of_le (by omega), List.drop_eq_nil_of_le (by omega), sameTs] at hp
     refine AWP.exit ?_
     refine AWP.seq ?_
     refine AWP.region ?_
     refine Y (ass rfl) rfl ?_
     refine AOps.nil ?_
     refine AWP.ret ⟨.inl rfl, ?_⟩
     exact RetIs.oneV rfl rfl (by (rw [← hp]) <;> rfl)
theorem eq_AFExpr (k : Tr) : ∀ k' : Tr, k.bnd 1000000 → Fn 70 [k.av, k'.av] (bool (sameT k k')) := by
  induction k using Tr.ind
  rename_i kd nm t ks ih
  intro k' hk
  obtain ⟨kd', nm', t', ks'⟩ := k'
  simp only [Tr.bnd] at hk
  obtain ⟨hk1, hk2, hk3⟩ := hk
  have hS := eqS_ofExpr ks ks' (fun k hk k' => ih k hk k' (Tr.bnds_mem hk3 k hk)) (by omega)
  refine AF.intro Tryd.func70 nm70 rfl rfl rfl rfl fun w0 ok0 => ?_
  refine AWP.seq ?_
  refine AWP.region ?_
  refine AOps.box rfl rfl rfl rfl fun b1 => ?_
  refine AOps.box rfl rfl rfl rfl fun b2 => ?_
  refine Y (ass rfl) rfl ?_
  refine AOps.nil ?_
  refine AWP.seq ?_
  refine AWP.seq ?_
  refine AWP.region ?_
  refine Y (Yields.fieldAddr_ptr fo29_0 rfl) rfl ?_
  refine Y (Yields.load_ptr_field (j := 1) kd3 rfl rfl rfl rfl rfl rfl rfl) rfl ?_
  refine Y (Yields.fieldAddr_ptr fo29_0 rfl) rfl ?_
  refine Y (Yields.load_ptr_field (j := 0) kd3 rfl rfl rfl rfl rfl rfl rfl) rfl ?_
  refine Y (bn rfl rfl BinR.neq rfl) rfl ?_
  refine AOps.nil ?_
  refine AWP.condT rfl (fun h1 => ?_) (fun h1 => ?_)
  ·
   replace h1 := bne_iff_ne.1 h1
   refine AWP.seq ?_
   refine AWP.region ?_
   refine Y (ass rfl) rfl ?_
   refine AOps.nil ?_
   refine AWP.ret ⟨.inl rfl, ?_⟩
   exact RetIs.oneV rfl rfl (by (simp [sameT, h1]) <;> rfl)
  ·
   replace h1 := bne_eq_false_iff_eq.1 h1
   refine AWP.skip ?_
   refine AWP.seq ?_
   refine AWP.seq ?_
   refine AWP.region ?_
   refine Y (Yields.fieldAddr_ptr fo29_1 rfl) rfl ?_
   refine Y (Yields.load_ptr_field (j := 1) kd3 rfl rfl rfl rfl rfl rfl rfl) rfl ?_
   refine Y (Yields.fieldAddr_ptr fo29_1 rfl) rfl ?_
   refine Y (Yields.load_ptr_field (j := 0) kd3 rfl rfl rfl rfl rfl rfl rfl) rfl ?_
   refine Y (bn rfl rfl BinR.neq rfl) rfl ?_
   refine AOps.nil ?_
   refine AWP.condT rfl (fun h2 => ?_) (fun h2 => ?_)
   ·
    replace h2 := bne_iff_ne.1 h2
    refine AWP.seq ?_
    refine AWP.region ?_
    refine Y (ass rfl) rfl ?_
    refine AOps.nil ?_
    refine AWP.ret ⟨.inl rfl, ?_⟩
    exact RetIs.oneV rfl rfl (by (simp [sameT, h2]) <;> rfl)
   ·
    replace h2 := bne_eq_false_iff_eq.1 h2
    refine AWP.skip ?_
    refine AWP.seq ?_
    refine AWP.seq ?_
    refine AWP.region ?_
    refine Y (Yields.fieldAddr_ptr fo29_2 rfl) rfl ?_
    refine Y (Yields.load_ptr_field (j := 1) kd9 rfl rfl rfl rfl rfl rfl rfl) rfl ?_
    refine Y (Yields.fieldAddr_ptr fo29_2 rfl) rfl ?_
    refine Y (Yields.load_ptr_field (j := 0) kd9 rfl rfl rfl rfl rfl rfl rfl) rfl ?_
    refine Y (bn rfl rfl BinR.sneq rfl) rfl ?_
    refine AOps.nil ?_
    refine AWP.condT rfl (fun h3 => ?_) (fun h3 => ?_)
    ·
     replace h3 := of_decide_eq_true h3
     refine AWP.seq ?_
     refine AWP.region ?_
     refine Y (ass rfl) rfl ?_
     refine AOps.nil ?_
     refine AWP.ret ⟨.inl rfl, ?_⟩
     exact RetIs.oneV rfl rfl (by (simp [sameT, h3]) <;> rfl)
    ·
     replace h3 := Decidable.of_not_not (of_decide_eq_false h3)
     refine AWP.skip ?_
     refine AWP.seq ?_
     refine AWP.seq ?_
     refine AWP.region ?_
     refine Y (Yields.fieldAddr_ptr fo29_3 rfl) rfl ?_
     refine Y (Yields.load_ptr_field (j := 1) kd27 rfl rfl rfl rfl rfl rfl rfl) rfl ?_
     refine Y (Yields.fieldAddr_ptr fo29_3 rfl) rfl ?_
     refine Y (Yields.load_ptr_field (j := 0) kd27 rfl rfl rfl rfl rfl rfl rfl) rfl ?_
     refine AOps.callro (hS) rfl rfl rfl ?_
     refine Y (Yields.not rfl) rfl ?_
     refine AOps.nil ?_
     refine AWP.condT rfl (fun h4 => ?_) (fun h4 => ?_)
     ·
      skip
      refine AWP.seq ?_
      refine AWP.region ?_
      refine Y (ass rfl) rfl ?_
      refine AOps.nil ?_
      refine AWP.ret ⟨.inl rfl, ?_⟩
      exact RetIs.oneV rfl rfl (by (simp_all [sameT]) <;> rfl)
     ·
      skip
      refine AWP.skip ?_
      refine AWP.seq ?_
      refine AWP.region ?_
      refine Y (ass rfl) rfl ?_
      refine AOps.nil ?_
      refine AWP.ret ⟨.inl rfl, ?_⟩
      exact RetIs.oneV rfl rfl (by (simp_all [sameT]) <;> rfl)
theorem eqS_AFExpr (us vs : List Tr) (hk : Tr.bnds 1000000 us) (hl : us.length ≤ 3000000) : Fn 51 [.ro 4 (Tr.avs us) [] false, .ro 4 (Tr.avs vs) [] false] (bool (sameTs us vs)) :=
  eqS_ofExpr us vs (fun k h k' => eq_AFExpr k k' (Tr.bnds_mem hk k h)) hl

theorem spare_at (ks : List Tr) : ((Tr.avRs false ks ++ Tr.spare false ks.length).drop (Tr.avRs false ks).length).take ((Tr.avRs false ks).length + Tr.room (Tr.avRs false ks).length - (Tr.avRs false ks).length) = Tr.avs (List.replicate (Tr.room ks.length) Tr.fillT) := by
  rw [List.drop_left, Nat.add_sub_cancel_left, Tr.avRs_length, ← Tr.avs_replicate, Tr.spare, if_neg (by simp), List.take_of_length_le (by simp)]
theorem spare_len (ks : List Tr) : (Tr.spare false ks.length).length = Tr.room ks.length := by simp [Tr.spare]
theorem bnds_fill : ∀ n, Tr.bnds 1000000 (List.replicate n Tr.fillT)
  | 0 => trivial
  | n + 1 => by rw [List.replicate_succ]; exact ⟨⟨by decide, by decide, trivial⟩, bnds_fill n⟩
theorem intactS_ofValue (ks : List Tr) (hv : ∀ k ∈ ks, Fn 15 [k.avR false, k.avR false] (bool true)) (hl : ks.length ≤ 1000000) :
    Fn 34 [.ro 4 (Tr.avRs false ks) (Tr.spare false ks.length) false, .ro 4 (Tr.avRs false ks) (Tr.spare false ks.length) false] (bool true) := by
  have hlen := Tr.avRs_length false ks
  have hsl := spare_len ks
  have hrle := Tr.room_le ks.length
  have hroom : Tr.room (Tr.avRs false ks).length = Tr.room ks.length := by rw [hlen]
  have hsp := spare_at ks
  refine AF.intro Tryd.func34 nm34 rfl rfl rfl rfl fun w0 ok0 => ?_
  refine AWP.seq ?_
  refine AWP.region ?_
  refine Y (ass rfl) rfl ?_
  refine AOps.nil ?_
  refine AWP.seq ?_
  refine AWP.region ?_
  refine Y (mv rfl) rfl ?_
  refine Y (Yields.len_ro sl38 rfl) rfl ?_
  refine Y (mv rfl) rfl ?_
  refine Y (Yields.len_ro sl38 rfl) rfl ?_
  refine AOps.callro (roomBehind_AF (Tr.avRs false ks).length) rfl rfl rfl ?_
  refine Y (bn rfl rfl (BinR.addI (by omega) (by omega)) rfl) rfl ?_
  refine Y (ass rfl) rfl ?_
  refine AOps.nil ?_
  refine AWP.seq ?_
  refine AWP.seq ?_
  refine AWP.region ?_
  refine Y (mv rfl) rfl ?_
  refine Y (Yields.len_ro sl38 rfl) rfl ?_
  refine Y (mv rfl) rfl ?_
  refine Y (Yields.len_ro sl38 rfl) rfl ?_
  refine Y (bn rfl rfl BinR.neq rfl) rfl ?_
  refine AOps.nil ?_
  refine AWP.condT rfl (fun h => ?_) (fun h => ?_)
  ·
   replace h := bne_iff_ne.1 h
   exact absurd rfl h
  ·
   replace h := bne_eq_false_iff_eq.1 h
   refine AWP.skip ?_
   refine AWP.seq ?_
   refine AWP.seq ?_
   refine AWP.region ?_
   refine Y (ass rfl) rfl ?_
   refine AOps.nil ?_
   refine AWP.block ?_
   refine AWP.loopV (α := Nat) (fun i : Nat => ⟨[(0, .ro 4 (Tr.avRs false ks) (Tr.spare false ks.length) false), (1, .ro 4 (Tr.avRs false ks) (Tr.spare false ks.length) false), (5, int ((Tr.avRs false ks).length + Tr.room (Tr.avRs false ks).length : Nat)), (6, int i)], []⟩) (fun i : Nat => i ≤ ks.length) (fun i : Nat => ks.length - i) (0) ?_ ?_ ?_
   · exact Leads.rows 0 ⟨rfl, rfl, rfl, rfl, trivial⟩
   ·
    show 0 ≤ ks.length
    exact Nat.zero_le _
   ·
    rintro i hinv
    refine AWP.seq ?_
    refine AWP.seq ?_
    refine AWP.region ?_
    refine Y (mv rfl) rfl ?_
    refine Y (mv rfl) rfl ?_
    refine Y (Yields.len_ro sl38 rfl) rfl ?_
    refine Y (bn rfl rfl BinR.lss rfl) rfl ?_
    refine AOps.nil ?_
    refine AWP.condT rfl (fun g => ?_) (fun g => ?_)
    ·
     replace g := of_decide_eq_true g
     obtain ⟨k, hk, hd⟩ := drop_at (l := ks) (i := i) (by omega)
     refine AWP.skip ?_
     refine AWP.seq ?_
     refine AWP.block ?_
     refine AWP.seq ?_
     refine AWP.prune (tm' := [(0, _), (1, _), (5, _), (6, _), (21, _)]) ⟨rfl, rfl, rfl, rfl, rfl, trivial⟩ ?_
     refine AWP.drawn mixed rfl rfl ?_
     refine D (tm' := [(0, _)]) ⟨rfl, trivial⟩ (DStep.yields (mv rfl)) rfl ?_
     refine D (tm' := [(6, _)]) ⟨rfl, trivial⟩ (DStep.yields (mv rfl)) rfl ?_
     refine D (tm' := [(24, _), (25, _)]) ⟨rfl, rfl, trivial⟩ (DStep.yields (Yields.idx_roN sl38 rfl rfl rfl rfl (by omega))) rfl ?_
     refine D (tm' := [(26, _)]) ⟨rfl, trivial⟩ (DStep.yields (Yields.load_rop_aggV kd40 rfl (Tr.avRs_at hk) (Tr.avR_agg false k))) rfl ?_
     refine D (tm' := [(1, _)]) ⟨rfl, trivial⟩ (DStep.yields (mv rfl)) rfl ?_
     refine D (tm' := [(6, _)]) ⟨rfl, trivial⟩ (DStep.yields (mv rfl)) rfl ?_
     refine D (tm' := [(28, _), (29, _)]) ⟨rfl, rfl, trivial⟩ (DStep.yields (Yields.idx_roN sl38 rfl rfl rfl rfl (by omega))) rfl ?_
     refine D (tm' := [(30, _)]) ⟨rfl, trivial⟩ (DStep.yields (Yields.load_rop_aggV kd40 rfl (Tr.avRs_at hk) (Tr.avR_agg false k))) rfl ?_
     refine D (tm' := [(27, _), (31, _)]) ⟨rfl, rfl, trivial⟩ (DStep.callro (hv k (List.mem_of_getElem? hk)) rfl rfl) rfl ?_
     refine D (tm' := [(32, _)]) ⟨rfl, trivial⟩ (DStep.yields (Yields.not rfl)) rfl ?_
     refine DOps.nil ?_
     refine AWP.condT rfl (fun g2 => ?_) (fun g2 => ?_)
     ·
      skip
      simp at g2
     ·
      skip
      refine AWP.skip ?_
      refine AWP.region ?_
      refine Y (mv rfl) rfl ?_
      refine Y (bn rfl rfl (BinR.addI (by omega) (by omega)) rfl) rfl ?_
      refine Y (ass rfl) rfl ?_
      refine AOps.nil ?_
      refine ⟨i + 1, ?_, ?_, ?_⟩
      ·
       show ks.length - (i + 1) < ks.length - i
       omega
      ·
       show (i + 1) ≤ ks.length
       omega
      · exact Leads.rows 0 ⟨rfl, rfl, rfl, rfl, trivial⟩
    ·
     replace g := of_decide_eq_false g
     refine AWP.exit ?_
     refine AWP.seq ?_
     refine AWP.prune (tm' := [(0, _), (1, _), (5, _), (6, _), (21, _)]) ⟨rfl, rfl, rfl, rfl, rfl, trivial⟩ ?_
     refine AWP.drawn mixed rfl rfl ?_
     refine D (tm' := [(0, _)]) ⟨rfl, trivial⟩ (DStep.yields (mv rfl)) rfl ?_
     refine D (tm' := [(1, _)]) ⟨rfl, trivial⟩ (DStep.yields (mv rfl)) rfl ?_
     refine D (tm' := [(35, _)]) ⟨rfl, trivial⟩ (DStep.yields (Yields.len_ro sl38 rfl)) rfl ?_
     refine D (tm' := [(5, _)]) ⟨rfl, trivial⟩ (DStep.yields (mv rfl)) rfl ?_
     refine D (tm' := [(34, _), (36, _), (37, _)]) ⟨rfl, rfl, rfl, trivial⟩ (DStep.yields (Yields.slice_ro sl38 rfl (l := (Tr.avRs false ks).length) (u := (Tr.avRs false ks).length + Tr.room (Tr.avRs false ks).length) ⟨.i64, rfl⟩ ⟨.i64, rfl⟩ (by omega) (by omega))) rfl ?_
     refine D (tm' := [(1, _)]) ⟨rfl, trivial⟩ (DStep.yields (mv rfl)) rfl ?_
     refine D (tm' := [(1, _)]) ⟨rfl, trivial⟩ (DStep.yields (mv rfl)) rfl ?_
     refine D (tm' := [(40, _)]) ⟨rfl, trivial⟩ (DStep.yields (Yields.len_ro sl38 rfl)) rfl ?_
     refine D (tm' := [(5, _)]) ⟨rfl, trivial⟩ (DStep.yields (mv rfl)) rfl ?_
     refine D (tm' := [(39, _), (41, _), (42, _)]) ⟨rfl, rfl, rfl, trivial⟩ (DStep.yields (Yields.slice_ro sl38 rfl (l := (Tr.avRs false ks).length) (u := (Tr.avRs false ks).length + Tr.room (Tr.avRs false ks).length) ⟨.i64, rfl⟩ ⟨.i64, rfl⟩ (by omega) (by omega))) rfl ?_
     refine D (tm' := [(38, _), (43, _)]) ⟨rfl, rfl, trivial⟩ (DStep.callw (eqS_AFValue (List.replicate (Tr.room ks.length) Tr.fillT) (List.replicate (Tr.room ks.length) Tr.fillT) (bnds_fill _) (by rw [List.length_replicate]; omega)) rfl ⟨Wk.ro (WkL.of hsp), Wk.ro (WkL.of hsp), trivial⟩ rfl) rfl ?_
     refine D (tm' := [(44, _)]) ⟨rfl, trivial⟩ (DStep.yields (ass rfl)) rfl ?_
     refine DOps.nil ?_
     refine AWP.ret ⟨.inl rfl, ?_⟩
     exact RetIs.oneV rfl rfl (by (rw [sameTs_refl]) <;> rfl)
theorem intact_AFValue (k : Tr) : k.bnd 1000000 → Fn 15 [k.avR false, k.avR false] (bool true) := by
  induction k using Tr.ind
  rename_i kd nm t ks ih
  intro hk
  simp only [Tr.bnd] at hk
  obtain ⟨hk1, hk2, hk3⟩ := hk
  have hS := intactS_ofValue ks (fun k hk => ih k hk (Tr.bnds_mem hk3 k hk)) hk2
  refine AF.intro Tryd.func15 nm15 rfl rfl rfl rfl fun w0 ok0 => ?_
  refine AWP.seq ?_
  refine AWP.region ?_
  refine AOps.box rfl rfl rfl rfl fun b1 => ?_
  refine AOps.box rfl rfl rfl rfl fun b2 => ?_
  refine Y (ass rfl) rfl ?_
  refine AOps.nil ?_
  refine AWP.seq ?_
  refine AWP.seq ?_
  refine AWP.region ?_
  refine Y (Yields.fieldAddr_ptr fo40_0 rfl) rfl ?_
  refine Y (Yields.load_ptr_field (j := 1) kd3 rfl rfl rfl rfl rfl rfl rfl) rfl ?_
  refine Y (Yields.fieldAddr_ptr fo40_0 rfl) rfl ?_
  refine Y (Yields.load_ptr_field (j := 0) kd3 rfl rfl rfl rfl rfl rfl rfl) rfl ?_
  refine Y (bn rfl rfl BinR.neq rfl) rfl ?_
  refine AOps.nil ?_
  refine AWP.condT rfl (fun h1 => ?_) (fun h1 => ?_)
  ·
   replace h1 := bne_iff_ne.1 h1
   exact absurd rfl h1
  ·
   replace h1 := bne_eq_false_iff_eq.1 h1
   refine AWP.skip ?_
   refine AWP.seq ?_
   refine AWP.seq ?_
   refine AWP.region ?_
   refine Y (Yields.fieldAddr_ptr fo40_1 rfl) rfl ?_
   refine Y (Yields.load_ptr_field (j := 1) kd3 rfl rfl rfl rfl rfl rfl rfl) rfl ?_
   refine Y (Yields.fieldAddr_ptr fo40_1 rfl) rfl ?_
   refine Y (Yields.load_ptr_field (j := 0) kd3 rfl rfl rfl rfl rfl rfl rfl) rfl ?_
   refine Y (bn rfl rfl BinR.neq rfl) rfl ?_
   refine AOps.nil ?_
   refine AWP.condT rfl (fun h2 => ?_) (fun h2 => ?_)
   ·
    replace h2 := bne_iff_ne.1 h2
    exact absurd rfl h2
   ·
    replace h2 := bne_eq_false_iff_eq.1 h2
    refine AWP.skip ?_
    refine AWP.seq ?_
    refine AWP.seq ?_
    refine AWP.region ?_
    refine Y (Yields.fieldAddr_ptr fo40_2 rfl) rfl ?_
    refine Y (Yields.load_ptr_field (j := 1) kd9 rfl rfl rfl rfl rfl rfl rfl) rfl ?_
    refine Y (Yields.fieldAddr_ptr fo40_2 rfl) rfl ?_
    refine Y (Yields.load_ptr_field (j := 0) kd9 rfl rfl rfl rfl rfl rfl rfl) rfl ?_
    refine Y (bn rfl rfl BinR.sneq rfl) rfl ?_
    refine AOps.nil ?_
    refine AWP.condT rfl (fun h3 => ?_) (fun h3 => ?_)
    ·
     replace h3 := of_decide_eq_true h3
     exact absurd rfl h3
    ·
     replace h3 := Decidable.of_not_not (of_decide_eq_false h3)
     refine AWP.skip ?_
     refine AWP.seq ?_
     refine AWP.seq ?_
     refine AWP.region ?_
     refine Y (Yields.fieldAddr_ptr fo40_3 rfl) rfl ?_
     refine Y (Yields.load_ptr_field (j := 1) kd38 rfl rfl rfl rfl rfl rfl rfl) rfl ?_
     refine Y (Yields.fieldAddr_ptr fo40_3 rfl) rfl ?_
     refine Y (Yields.load_ptr_field (j := 0) kd38 rfl rfl rfl rfl rfl rfl rfl) rfl ?_
     refine AOps.callro (hS) rfl rfl rfl ?_
     refine Y (Yields.not rfl) rfl ?_
     refine AOps.nil ?_
     refine AWP.condT rfl (fun h4 => ?_) (fun h4 => ?_)
     ·
      skip
      simp at h4
     ·
      skip
      refine AWP.skip ?_
      refine AWP.seq ?_
      refine AWP.region ?_
      refine Y (ass rfl) rfl ?_
      refine AOps.nil ?_
      refine AWP.ret ⟨.inl rfl, ?_⟩
      exact RetIs.oneV rfl rfl (by (rfl) <;> rfl)
theorem intactS_ofExpr (ks : List Tr) (hv : ∀ k ∈ ks, Fn 10 [k.avR false, k.avR false] (bool true)) (hl : ks.length ≤ 1000000) :
    Fn 27 [.ro 4 (Tr.avRs false ks) (Tr.spare false ks.length) false, .ro 4 (Tr.avRs false ks) (Tr.spare false ks.length) false] (bool true) := by
  have hlen := Tr.avRs_length false ks
  have hsl := spare_len ks
  have hrle := Tr.room_le ks.length
  have hroom : Tr.room (Tr.avRs false ks).length = Tr.room ks.length := by rw [hlen]
  have hsp := spare_at ks
  refine AF.intro Tryd.func27 nm27 rfl rfl rfl rfl fun w0 ok0 => ?_
  refine AWP.seq ?_
  refine AWP.region ?_
  refine Y (ass rfl) rfl ?_
  refine AOps.nil ?_
  refine AWP.seq ?_
  refine AWP.region ?_
  refine Y (mv rfl) rfl ?_
  refine Y (Yields.len_ro sl27 rfl) rfl ?_
  refine Y (mv rfl) rfl ?_
  refine Y (Yields.len_ro sl27 rfl) rfl ?_
  refine AOps.callro (roomBehind_AF (Tr.avRs false ks).length) rfl rfl rfl ?_
  refine Y (bn rfl rfl (BinR.addI (by omega) (by omega)) rfl) rfl ?_
  refine Y (ass rfl) rfl ?_
  refine AOps.nil ?_
  refine AWP.seq ?_
  refine AWP.seq ?_
  refine AWP.region ?_
  refine Y (mv rfl) rfl ?_
  refine Y (Yields.len_ro sl27 rfl) rfl ?_
  refine Y (mv rfl) rfl ?_
  refine Y (Yields.len_ro sl27 rfl) rfl ?_
  refine Y (bn rfl rfl BinR.neq rfl) rfl ?_
  refine AOps.nil ?_
  refine AWP.condT rfl (fun h => ?_) (fun h => ?_)
  ·
   replace h := bne_iff_ne.1 h
   exact absurd rfl h
  ·
   replace h := bne_eq_false_iff_eq.1 h
   refine AWP.skip ?_
   refine AWP.seq ?_
   refine AWP.seq ?_
   refine AWP.region ?_
   refine Y (ass rfl) rfl ?_
   refine AOps.nil ?_
   refine AWP.block ?_
   refine AWP.loopV (α := Nat) (fun i : Nat => ⟨[(0, .ro 4 (Tr.avRs false ks) (Tr.spare false ks.length) false), (1, .ro 4 (Tr.avRs false ks) (Tr.spare false ks.length) false), (5, int ((Tr.avRs false ks).length + Tr.room (Tr.avRs false ks).length : Nat)), (6, int i)], []⟩) (fun i : Nat => i ≤ ks.length) (fun i : Nat => ks.length - i) (0) ?_ ?_ ?_
   · exact Leads.rows 0 ⟨rfl, rfl, rfl, rfl, trivial⟩
   ·
    show 0 ≤ ks.length
    exact Nat.zero_le _
   ·
    rintro i hinv
    refine AWP.seq ?_
    refine AWP.seq ?_
    refine AWP.region ?_
    refine Y (mv rfl) rfl ?_
    refine Y (mv rfl) rfl ?_
    refine Y (Yields.len_ro sl27 rfl) rfl ?_
    refine Y (bn rfl rfl BinR.lss rfl) rfl ?_
    refine AOps.nil ?_
    refine AWP.condT rfl (fun g => ?_) (fun g => ?_)
    ·
     replace g := of_decide_eq_true g
     obtain ⟨k, hk, hd⟩ := drop_at (l := ks) (i := i) (by omega)
     refine AWP.skip ?_
     refine AWP.seq ?_
     refine AWP.block ?_
     refine AWP.seq ?_
     refine AWP.prune (tm' := [(0, _), (1, _), (5, _), (6, _), (21, _)]) ⟨rfl, rfl, rfl, rfl, rfl, trivial⟩ ?_
     refine AWP.drawn mixed rfl rfl ?_
     refine D (tm' := [(0, _)]) ⟨rfl, trivial⟩ (DStep.yields (mv rfl)) rfl ?_
     refine D (tm' := [(6, _)]) ⟨rfl, trivial⟩ (DStep.yields (mv rfl)) rfl ?_
     refine D (tm' := [(24, _), (25, _)]) ⟨rfl, rfl, trivial⟩ (DStep.yields (Yields.idx_roN sl27 rfl rfl rfl rfl (by omega))) rfl ?_
     refine D (tm' := [(26, _)]) ⟨rfl, trivial⟩ (DStep.yields (Yields.load_rop_aggV kd29 rfl (Tr.avRs_at hk) (Tr.avR_agg false k))) rfl ?_
     refine D (tm' := [(1, _)]) ⟨rfl, trivial⟩ (DStep.yields (mv rfl)) rfl ?_
     refine D (tm' := [(6, _)]) ⟨rfl, trivial⟩ (DStep.yields (mv rfl)) rfl ?_
     refine D (tm' := [(28, _), (29, _)]) ⟨rfl, rfl, trivial⟩ (DStep.yields (Yields.idx_roN sl27 rfl rfl rfl rfl (by omega))) rfl ?_
     refine D (tm' := [(30, _)]) ⟨rfl, trivial⟩ (DStep.yields (Yields.load_rop_aggV kd29 rfl (Tr.avRs_at hk) (Tr.avR_agg false k))) rfl ?_
     refine D (tm' := [(27, _), (31, _)]) ⟨rfl, rfl, trivial⟩ (DStep.callro (hv k (List.mem_of_getElem? hk)) rfl rfl) rfl ?_
     refine D (tm' := [(32, _)]) ⟨rfl, trivial⟩ (DStep.yields (Yields.not rfl)) rfl ?_
     refine DOps.nil ?_
     refine AWP.condT rfl (fun g2 => ?_) (fun g2 => ?_)
     ·
      skip
      simp at g2
     ·
      skip
      refine AWP.skip ?_
      refine AWP.region ?_
      refine Y (mv rfl) rfl ?_
      refine Y (bn rfl rfl (BinR.addI (by omega) (by omega)) rfl) rfl ?_
      refine Y (ass rfl) rfl ?_
      refine AOps.nil ?_
      refine ⟨i + 1, ?_, ?_, ?_⟩
      ·
       show ks.length - (i + 1) < ks.length - i
       omega
      ·
       show (i + 1) ≤ ks.length
       omega
      · exact Leads.rows 0 ⟨rfl, rfl, rfl, rfl, trivial⟩
    ·
     replace g := of_decide_eq_false g
     refine AWP.exit ?_
     refine AWP.seq ?_
     refine AWP.prune (tm' := [(0, _), (1, _), (5, _), (6, _), (21, _)]) ⟨rfl, rfl, rfl, rfl, rfl, trivial⟩ ?_
     refine AWP.drawn mixed rfl rfl ?_
     refine D (tm' := [(0, _)]) ⟨rfl, trivial⟩ (DStep.yields (mv rfl)) rfl ?_
     refine D (tm' := [(1, _)]) ⟨rfl, trivial⟩ (DStep.yields (mv rfl)) rfl ?_
     refine D (tm' := [(35, _)]) ⟨rfl, trivial⟩ (DStep.yields (Yields.len_ro sl27 rfl)) rfl ?_
     refine D (tm' := [(5, _)]) ⟨rfl, trivial⟩ (DStep.yields (mv rfl)) rfl ?_
     refine D (tm' := [(34, _), (36, _), (37, _)]) ⟨rfl, rfl, rfl, trivial⟩ (DStep.yields (Yields.slice_ro sl27 rfl (l := (Tr.avRs false ks).length) (u := (Tr.avRs false ks).length + Tr.room (Tr.avRs false ks).length) ⟨.i64, rfl⟩ ⟨.i64, rfl⟩ (by omega) (by omega))) rfl ?_
     refine D (tm' := [(1, _)]) ⟨rfl, trivial⟩ (DStep.yields (mv rfl)) rfl ?_
     refine D (tm' := [(1, _)]) ⟨rfl, trivial⟩ (DStep.yields (mv rfl)) rfl ?_
     refine D (tm' := [(40, _)]) ⟨rfl, trivial⟩ (DStep.yields (Yields.len_ro sl27 rfl)) rfl ?_
     refine D (tm' := [(5, _)]) ⟨rfl, trivial⟩ (DStep.yields (mv rfl)) rfl ?_
     refine D (tm' := [(39, _), (41, _), (42, _)]) ⟨rfl, rfl, rfl, trivial⟩ (DStep.yields (Yields.slice_ro sl27 rfl (l := (Tr.avRs false ks).length) (u := (Tr.avRs false ks).length + Tr.room (Tr.avRs false ks).length) ⟨.i64, rfl⟩ ⟨.i64, rfl⟩ (by omega) (by omega))) rfl ?_
     refine D (tm' := [(38, _), (43, _)]) ⟨rfl, rfl, trivial⟩ (DStep.callw (eqS_AFExpr (List.replicate (Tr.room ks.length) Tr.fillT) (List.replicate (Tr.room ks.length) Tr.fillT) (bnds_fill _) (by rw [List.length_replicate]; omega)) rfl ⟨Wk.ro (WkL.of hsp), Wk.ro (WkL.of hsp), trivial⟩ rfl) rfl ?_
     refine D (tm' := [(44, _)]) ⟨rfl, trivial⟩ (DStep.yields (ass rfl)) rfl ?_
     refine DOps.nil ?_
     refine AWP.ret ⟨.inl rfl, ?_⟩
     exact RetIs.oneV rfl rfl (by (rw [sameTs_refl]) <;> rfl)
theorem intact_AFExpr (k : Tr) : k.bnd 1000000 → Fn 10 [k.avR false, k.avR false] (bool true) := by
  induction k using Tr.ind
  rename_i kd nm t ks ih
  intro hk
  simp only [Tr.bnd] at hk
  obtain ⟨hk1, hk2, hk3⟩ := hk
  have hS := intactS_ofExpr ks (fun k hk => ih k hk (Tr.bnds_mem hk3 k hk)) hk2
  refine AF.intro Tryd.func10 nm10 rfl rfl rfl rfl fun w0 ok0 => ?_
  refine AWP.seq ?_
  refine AWP.region ?_
  refine AOps.box rfl rfl rfl rfl fun b1 => ?_
  refine AOps.box rfl rfl rfl rfl fun b2 => ?_
  refine Y (ass rfl) rfl ?_
  refine AOps.nil ?_
  refine AWP.seq ?_
  refine AWP.seq ?_
  refine AWP.region ?_
  refine Y (Yields.fieldAddr_ptr fo29_0 rfl) rfl ?_
  refine Y (Yields.load_ptr_field (j := 1) kd3 rfl rfl rfl rfl rfl rfl rfl) rfl ?_
  refine Y (Yields.fieldAddr_ptr fo29_0 rfl) rfl ?_
  refine Y (Yields.load_ptr_field (j := 0) kd3 rfl rfl rfl rfl rfl rfl rfl) rfl ?_
  refine Y (bn rfl rfl BinR.neq rfl) rfl ?_
  refine AOps.nil ?_
  refine AWP.condT rfl (fun h1 => ?_) (fun h1 => ?_)
  ·
   replace h1 := bne_iff_ne.1 h1
   exact absurd rfl h1
  ·
   replace h1 := bne_eq_false_iff_eq.1 h1
   refine AWP.skip ?_
   refine AWP.seq ?_
   refine AWP.seq ?_
   refine AWP.region ?_
   refine Y (Yields.fieldAddr_ptr fo29_1 rfl) rfl ?_
   refine Y (Yields.load_ptr_field (j := 1) kd3 rfl rfl rfl rfl rfl rfl rfl) rfl ?_
   refine Y (Yields.fieldAddr_ptr fo29_1 rfl) rfl ?_
   refine Y (Yields.load_ptr_field (j := 0) kd3 rfl rfl rfl rfl rfl rfl rfl) rfl ?_
   refine Y (bn rfl rfl BinR.neq rfl) rfl ?_
   refine AOps.nil ?_
   refine AWP.condT rfl (fun h2 => ?_) (fun h2 => ?_)
   ·
    replace h2 := bne_iff_ne.1 h2
    exact absurd rfl h2
   ·
    replace h2 := bne_eq_false_iff_eq.1 h2
    refine AWP.skip ?_
    refine AWP.seq ?_
    refine AWP.seq ?_
    refine AWP.region ?_
    refine Y (Yields.fieldAddr_ptr fo29_2 rfl) rfl ?_
    refine Y (Yields.load_ptr_field (j := 1) kd9 rfl rfl rfl rfl rfl rfl rfl) rfl ?_
    refine Y (Yields.fieldAddr_ptr fo29_2 rfl) rfl ?_
    refine Y (Yields.load_ptr_field (j := 0) kd9 rfl rfl rfl rfl rfl rfl rfl) rfl ?_
    refine Y (bn rfl rfl BinR.sneq rfl) rfl ?_
    refine AOps.nil ?_
    refine AWP.condT rfl (fun h3 => ?_) (fun h3 => ?_)
    ·
     replace h3 := of_decide_eq_true h3
     exact absurd rfl h3
    ·
     replace h3 := Decidable.of_not_not (of_decide_eq_false h3)
     refine AWP.skip ?_
     refine AWP.seq ?_
     refine AWP.seq ?_
     refine AWP.region ?_
     refine Y (Yields.fieldAddr_ptr fo29_3 rfl) rfl ?_
     refine Y (Yields.load_ptr_field (j := 1) kd27 rfl rfl rfl rfl rfl rfl rfl) rfl ?_
     refine Y (Yields.fieldAddr_ptr fo29_3 rfl) rfl ?_
     refine Y (Yields.load_ptr_field (j := 0) kd27 rfl rfl rfl rfl rfl rfl rfl) rfl ?_
     refine AOps.callro (hS) rfl rfl rfl ?_
     refine Y (Yields.not rfl) rfl ?_
     refine AOps.nil ?_
     refine AWP.condT rfl (fun h4 => ?_) (fun h4 => ?_)
     ·
      skip
      simp at h4
     ·
      skip
      refine AWP.skip ?_
      refine AWP.seq ?_
      refine AWP.region ?_
      refine Y (ass rfl) rfl ?_
      refine AOps.nil ?_
      refine AWP.ret ⟨.inl rfl, ?_⟩
      exact RetIs.oneV rfl rfl (by (rfl) <;> rfl)
end Go.Proofs.YtccdgppplkfjfaaDoor
