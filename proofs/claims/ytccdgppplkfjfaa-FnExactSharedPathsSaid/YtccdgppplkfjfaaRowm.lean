/- Lists of lists of numbers: equality, marks. -/
import Derived.Test.YtccdgppplkfjfaaLists
namespace Go.Proofs.Ytccdgppplkfjfaa
open Go Go.Ax Go.Proofs
set_option linter.unusedVariables false
set_option linter.unusedSimpArgs false
set_option maxRecDepth 20000
theorem eqIntSS_AF (L : List (List Int)) (hl : L.length ≤ 4000000) (hs : ∀ p ∈ L, p.length ≤ 4000000) : Fn 15 [.ro 1 (rowsR L) [] false, .ro 1 (rowsR L) [] false] (bool true) := by
  have hlr := rowsR_length L
  refine AF.intro Try.func15 nm15 rfl rfl rfl rfl fun w0 ok0 => ?_
  refine AWP.seq ?_
  refine AWP.region ?_
  refine Y (ass rfl) rfl ?_
  refine AOps.nil ?_
  refine AWP.seq ?_
  refine AWP.seq ?_
  refine AWP.region ?_
  refine Y (mv rfl) rfl ?_
  refine Y (Yields.len_ro sl26 rfl) rfl ?_
  refine Y (mv rfl) rfl ?_
  refine Y (Yields.len_ro sl26 rfl) rfl ?_
  refine Y (bn rfl rfl BinR.neq rfl) rfl ?_
  refine AOps.nil ?_
  refine AWP.condT rfl (fun h => ?_) (fun h => ?_)
  ·
   replace h := bne_iff_ne.1 h
   exact absurd rfl h
  ·
   replace h := bne_eq_false_iff_eq.1 h
   refine AWP.skip ?_
   refine AWP.seq ?_
   refine AWP.seq ?_
   refine AWP.region ?_
   refine Y (ass rfl) rfl ?_
   refine AOps.nil ?_
   refine AWP.block ?_
   refine AWP.loopV (α := Nat) (fun i : Nat => ⟨[(0, .ro 1 (rowsR L) [] false), (1, .ro 1 (rowsR L) [] false), (5, int i)], []⟩) (fun i : Nat => i ≤ L.length) (fun i : Nat => L.length - i) (0) ?_ ?_ ?_
   · exact Leads.rows 0 ⟨rfl, rfl, rfl, trivial⟩
   ·
    show 0 ≤ L.length
    exact Nat.zero_le _
   ·
    rintro i hinv
    refine AWP.seq ?_
    refine AWP.seq ?_
    refine AWP.region ?_
    have hi := hinv
    refine Y (mv rfl) rfl ?_
    refine Y (mv rfl) rfl ?_
    refine Y (Yields.len_ro sl26 rfl) rfl ?_
    refine Y (bn rfl rfl BinR.lss rfl) rfl ?_
    refine AOps.nil ?_
    refine AWP.condT rfl (fun g => ?_) (fun g => ?_)
    ·
     replace g := of_decide_eq_true g
     obtain ⟨x, hx, hdx⟩ := drop_at (l := L) (i := i) (by omega)
     refine AWP.skip ?_
     refine AWP.seq ?_
     refine AWP.block ?_
     refine AWP.seq ?_
     refine AWP.prune (tm' := [(0, _), (1, _), (5, _), (14, _)]) ⟨rfl, rfl, rfl, rfl, trivial⟩ ?_
     refine AWP.drawn mixed rfl rfl ?_
     refine D (tm' := [(0, _)]) ⟨rfl, trivial⟩ (DStep.yields (mv rfl)) rfl ?_
     refine D (tm' := [(5, _)]) ⟨rfl, trivial⟩ (DStep.yields (mv rfl)) rfl ?_
     refine D (tm' := [(17, _), (18, _)]) ⟨rfl, rfl, trivial⟩ (DStep.yields (Yields.idx_roN sl26 rfl rfl rfl rfl (by omega))) rfl ?_
     refine D (tm' := [(19, _)]) ⟨rfl, trivial⟩ (DStep.yields (Yields.load_rop_one kd41 rfl (rowsR_at hx) rfl)) rfl ?_
     refine D (tm' := [(1, _)]) ⟨rfl, trivial⟩ (DStep.yields (mv rfl)) rfl ?_
     refine D (tm' := [(5, _)]) ⟨rfl, trivial⟩ (DStep.yields (mv rfl)) rfl ?_
     refine D (tm' := [(21, _), (22, _)]) ⟨rfl, rfl, trivial⟩ (DStep.yields (Yields.idx_roN sl26 rfl rfl rfl rfl (by omega))) rfl ?_
     refine D (tm' := [(23, _)]) ⟨rfl, trivial⟩ (DStep.yields (Yields.load_rop_one kd41 rfl (rowsR_at hx) rfl)) rfl ?_
     refine D (tm' := [(20, _), (24, _)]) ⟨rfl, rfl, trivial⟩ (DStep.callro (eqIntS_AF x [] [] false false (hs x (List.mem_of_getElem? hx))) rfl rfl) rfl ?_
     refine D (tm' := [(25, _)]) ⟨rfl, trivial⟩ (DStep.yields (Yields.not rfl)) rfl ?_
     refine DOps.nil ?_
     refine AWP.condT rfl (fun g2 => ?_) (fun g2 => ?_)
     ·
      skip
      simp at g2
     ·
      skip
      refine AWP.skip ?_
      refine AWP.region ?_
      refine Y (mv rfl) rfl ?_
      refine Y (bn rfl rfl (BinR.addI (by omega) (by omega)) rfl) rfl ?_
      refine Y (ass rfl) rfl ?_
      refine AOps.nil ?_
      refine ⟨i + 1, ?_, ?_, ?_⟩
      ·
       show L.length - (i + 1) < L.length - i
       omega
      ·
       show (i + 1) ≤ L.length
       show i + 1 ≤ L.length; omega
      · exact Leads.rows 0 ⟨rfl, rfl, rfl, trivial⟩
    ·
     replace g := of_decide_eq_false g
     refine AWP.exit ?_
     refine AWP.seq ?_
     refine AWP.region ?_
     refine Y (ass rfl) rfl ?_
     refine AOps.nil ?_
     refine AWP.ret ⟨.inl rfl, ?_⟩
     exact RetIs.oneV rfl rfl (by (rfl) <;> rfl)
def markR : List (List Int) → Nat → List (List Int)
  | [], _ => []
  | p :: L, k => markIs p.length k :: markR L (k + p.length)
def sumR : List (List Int) → Nat
  | [] => 0
  | p :: L => p.length + sumR L
theorem markR_length : ∀ (L : List (List Int)) (k : Nat), (markR L k).length = L.length
  | [], _ => rfl
  | p :: L, k => by rw [markR, List.length_cons, markR_length L, List.length_cons]
theorem sumR_le {m : Nat} : ∀ L : List (List Int), (∀ p ∈ L, p.length ≤ m) → sumR L ≤ L.length * m
  | [], _ => Nat.zero_le _
  | p :: L, h => by
    rw [sumR, List.length_cons, Nat.succ_mul]
    have h1 := h p (List.mem_cons_self ..)
    have h2 := sumR_le L fun q hq => h q (List.mem_cons_of_mem _ hq)
    omega
theorem getR {A R : List (List Int)} {x : List Int} : (rowsO (A ++ x :: R))[A.length]? = some (.own 1 (ints x) []) := by
  rw [← rowsO_append, ← rowsO_length A, List.getElem?_append_right (Nat.le_refl _)]; simp [rowsO]
theorem setR {A R : List (List Int)} {x y : List Int} : (rowsO (A ++ x :: R)).set A.length (.own 1 (ints y) []) = rowsO ((A ++ [y]) ++ R) := by
  rw [← rowsO_append, ← rowsO_length A, List.set_append_right _ _ (Nat.le_refl _)]; simp [rowsO]
theorem markIntSS_AH (L : List (List Int)) (B : Option Nat) (k : Nat) (hk : k + sumR L ≤ 8000000000000000000) (hl : L.length ≤ 4000000) : FnH 18 [(B, ⟨1, rowsO L⟩)] [.loc B 0 L.length L.length 1, int k] (fun v hp' => v = int ((k + sumR L : Nat) : Int) ∧ hp' = [(B, ⟨1, rowsO (markR L k)⟩)]) := by
  refine AH.intro Try.func18 nm18 rfl rfl rfl fun w0 ok0 own0 => ?_
  refine AWP.seq ?_
  refine AWP.region ?_
  refine Y (ass rfl) rfl ?_
  refine AOps.nil ?_
  refine AWP.seq ?_
  refine AWP.seq ?_
  refine AWP.region ?_
  refine Y (ass rfl) rfl ?_
  refine AOps.nil ?_
  refine AWP.block ?_
  refine AWP.loopV (α := List (List Int) × List (List Int) × Nat × Option Nat × Nat) (fun pp : List (List Int) × List (List Int) × Nat × Option Nat × Nat => match pp with | (A, R, kk, C, i) => ⟨[(0, .loc C 0 L.length L.length 1), (1, int kk), (5, int i)], [(C, ⟨1, rowsO (A ++ R)⟩)]⟩) (fun pp : List (List Int) × List (List Int) × Nat × Option Nat × Nat => match pp with | (A, R, kk, C, i) => A.length = i ∧ A.length + R.length = L.length ∧ kk + sumR R = k + sumR L ∧ A ++ markR R kk = markR L k ∧ C = B) (fun pp : List (List Int) × List (List Int) × Nat × Option Nat × Nat => match pp with | (A, R, kk, C, i) => L.length - i) (([], L, k, B, 0)) ?_ ?_ ?_
  · exact Leads.keepR (KeepR.cons 0 rfl KeepR.nil) ⟨rfl, rfl, rfl, trivial⟩
  ·
   show ([]).length = 0 ∧ ([]).length + L.length = L.length ∧ k + sumR L = k + sumR L ∧ ([]) ++ markR L k = markR L k ∧ B = B
   exact ⟨rfl, by simp, rfl, rfl, rfl⟩
  ·
   rintro ⟨A, R, kk, C, i⟩ hinv
   replace hinv : A.length = i ∧ A.length + R.length = L.length ∧ kk + sumR R = k + sumR L ∧ A ++ markR R kk = markR L k ∧ C = B := hinv
   show AWP _ _ _ _ ⟨[(0, .loc C 0 L.length L.length 1), (1, int kk), (5, int i)], [(C, ⟨1, rowsO (A ++ R)⟩)]⟩
   refine AWP.seq ?_
   refine AWP.seq ?_
   refine AWP.region ?_
   obtain ⟨hAi, hA, hkk, hM, hC⟩ := hinv
   refine Y (mv rfl) rfl ?_
   refine Y (mv rfl) rfl ?_
   refine Y (Yields.len_loc sl26 rfl) rfl ?_
   refine Y (bn rfl rfl BinR.lss rfl) rfl ?_
   refine AOps.nil ?_
   refine AWP.condT rfl (fun g => ?_) (fun g => ?_)
   ·
    replace g := of_decide_eq_true g
    obtain ⟨x, R', hR⟩ : ∃ x R', R = x :: R' := by cases R with | nil => (simp at hA; omega) | cons x R' => exact ⟨x, R', rfl⟩
    subst hR
    rw [markR] at hM
    rw [sumR] at hkk
    simp only [List.length_cons] at hA
    refine AWP.someRow 0 rfl (by intro e; have e := congrArg List.length e; simp [rowsO] at e) fun c hsr => ?_
    subst hsr
    refine AWP.unseal 0 i rfl (by rw [← hAi]; exact getR) (OpenTo.ownV (m := 1) (ys := ints x)) fun Bi => ?_
    refine AWP.leads (Leads.rowEq 0 rfl (List.append_nil _).symm) ?_
    refine AWP.skip ?_
    refine AWP.seq ?_
    refine AWP.block ?_
    refine AWP.region ?_
    refine Y (mv rfl) rfl ?_
    refine Y (mv rfl) rfl ?_
    refine Y (Yields.idx_locN sl26 rfl rfl (j := i) rfl (by omega)) rfl ?_
    refine Y (Yields.load_ptr_one (j := 1) kd41 rfl rfl (by rw [Nat.zero_add]; exact List.getElem?_set_self (by simp [rowsO]; omega)) rfl rfl) rfl ?_
    have hlx := ints_length x
    refine AOps.leads (Leads.same (t := 15) rfl (show AV.loc Bi 0 (ints x).length (ints x).length 1 = .loc Bi 0 x.length x.length 1 by rw [hlx])) ?_
    refine Y (mv rfl) rfl ?_
    refine AOps.callH (.inl trivial) (markIntS_AH x [] x.length Bi kk (by omega)) rfl rfl rfl (WkL.refl _) ?_
    rintro _ _ ⟨rfl, rfl⟩
    have hlm := markIs_length x.length kk
    refine AOps.leads (Leads.rowEq 0 rfl (List.append_nil _)) ?_
    refine AOps.leads (Leads.seal 0 i rfl (List.getElem?_set_self (by simp [rowsO]; omega)) (SealTo.locV (by simp [hlm, ints]) (by simp [hlm, ints]))) ?_
    refine AOps.leads (Leads.rowEq 0 rfl (show _ = rowsO ((A ++ [markIs x.length kk]) ++ R') by rw [List.set_set, ← hAi]; exact setR)) ?_
    refine Y (ass rfl) rfl ?_
    refine AOps.nil ?_
    refine AWP.region ?_
    refine Y (mv rfl) rfl ?_
    refine Y (bn rfl rfl (BinR.addI (by omega) (by omega)) rfl) rfl ?_
    refine Y (ass rfl) rfl ?_
    refine AOps.nil ?_
    refine ⟨(A ++ [markIs x.length kk], R', kk + x.length, some c, i + 1), ?_, ?_, ?_⟩
    ·
     show L.length - (i + 1) < L.length - i
     omega
    ·
     show (A ++ [markIs x.length kk]).length = (i + 1) ∧ (A ++ [markIs x.length kk]).length + R'.length = L.length ∧ (kk + x.length) + sumR R' = k + sumR L ∧ (A ++ [markIs x.length kk]) ++ markR R' (kk + x.length) = markR L k ∧ (some c) = B
     exact ⟨by simp; omega, by simp; omega, by omega, by rw [← hM]; simp, hC⟩
    · exact Leads.keepR (KeepR.cons 0 rfl KeepR.nil) ⟨rfl, rfl, rfl, trivial⟩
   ·
    replace g := of_decide_eq_false g
    have hR : R = [] := by cases R with | nil => rfl | cons x R' => (simp at hA; omega)
    subst hR
    rw [markR, List.append_nil] at hM
    rw [sumR] at hkk
    refine AWP.exit ?_
    refine AWP.seq ?_
    refine AWP.region ?_
    refine Y (mv rfl) rfl ?_
    refine Y (ass rfl) rfl ?_
    refine AOps.nil ?_
    refine AWP.ret ⟨.inl rfl, ?_⟩
    exact RetH.of (rs := [.tmp 4]) (vs := [_]) rfl ⟨rfl, trivial⟩ (KeepR.cons 0 rfl KeepR.nil) (⟨by rw [← hkk]; rfl, by rw [hC, List.append_nil, hM]⟩)
theorem heldIntSS_AF (L : List (List Int)) : ∀ (k : Nat) (hk : k + sumR L ≤ 8000000000000000000) (hl : L.length ≤ 4000000), Fn 19 [.ro 1 (rowsR (markR L k)) [] false, int k] (int ((k + sumR L : Nat) : Int)) := by
  intro k hk hl
  have hlr := rowsR_length (markR L k)
  have hlm := markR_length L k
  refine AF.intro Try.func19 nm19 rfl rfl rfl rfl fun w0 ok0 => ?_
  refine AWP.seq ?_
  refine AWP.region ?_
  refine Y (ass rfl) rfl ?_
  refine AOps.nil ?_
  refine AWP.seq ?_
  refine AWP.seq ?_
  refine AWP.region ?_
  refine Y (ass rfl) rfl ?_
  refine AOps.nil ?_
  refine AWP.block ?_
  refine AWP.loopV (α := Nat × Nat × List (List Int)) (fun pp : Nat × Nat × List (List Int) => match pp with | (i, kk, R) => ⟨[(0, .ro 1 (rowsR (markR L k)) [] false), (1, int kk), (5, int i)], []⟩) (fun pp : Nat × Nat × List (List Int) => match pp with | (i, kk, R) => i + R.length = L.length ∧ kk + sumR R = k + sumR L ∧ (markR L k).drop i = markR R kk) (fun pp : Nat × Nat × List (List Int) => match pp with | (i, kk, R) => L.length - i) ((0, k, L)) ?_ ?_ ?_
  · exact Leads.rows 0 ⟨rfl, rfl, rfl, trivial⟩
  ·
   show 0 + L.length = L.length ∧ k + sumR L = k + sumR L ∧ (markR L k).drop 0 = markR L k
   exact ⟨by simp, rfl, by rw [List.drop_zero]⟩
  ·
   rintro ⟨i, kk, R⟩ hinv
   replace hinv : i + R.length = L.length ∧ kk + sumR R = k + sumR L ∧ (markR L k).drop i = markR R kk := hinv
   show AWP _ _ _ _ ⟨[(0, .ro 1 (rowsR (markR L k)) [] false), (1, int kk), (5, int i)], []⟩
   refine AWP.seq ?_
   refine AWP.seq ?_
   refine AWP.region ?_
   obtain ⟨hA, hkk, hM⟩ := hinv
   refine Y (mv rfl) rfl ?_
   refine Y (mv rfl) rfl ?_
   refine Y (Yields.len_ro sl26 rfl) rfl ?_
   refine Y (bn rfl rfl BinR.lss rfl) rfl ?_
   refine AOps.nil ?_
   refine AWP.condT rfl (fun g => ?_) (fun g => ?_)
   ·
    replace g := of_decide_eq_true g
    obtain ⟨x, R', hR⟩ : ∃ x R', R = x :: R' := by cases R with | nil => (simp at hA; omega) | cons x R' => exact ⟨x, R', rfl⟩
    subst hR
    rw [markR] at hM
    rw [sumR] at hkk
    simp only [List.length_cons] at hA
    have hx : (markR L k)[i]? = some (markIs x.length kk) := by rw [← List.head?_drop, hM]; rfl
    refine AWP.skip ?_
    refine AWP.seq ?_
    refine AWP.block ?_
    refine AWP.seq ?_
    refine AWP.region ?_
    refine Y (mv rfl) rfl ?_
    refine Y (mv rfl) rfl ?_
    refine Y (Yields.idx_roN sl26 rfl rfl rfl rfl (by omega)) rfl ?_
    refine Y (Yields.load_rop_one kd41 rfl (rowsR_at hx) rfl) rfl ?_
    refine Y (mv rfl) rfl ?_
    refine AOps.callro (heldIntS_AF x.length kk [] (by omega)) rfl rfl rfl ?_
    refine Y (ass rfl) rfl ?_
    refine AOps.nil ?_
    refine AWP.seq ?_
    refine AWP.region ?_
    refine Y (mv rfl) rfl ?_
    refine Y (bn rfl rfl BinR.lss rfl) rfl ?_
    refine AOps.nil ?_
    refine AWP.condT rfl (fun g2 => ?_) (fun g2 => ?_)
    ·
     replace g2 := of_decide_eq_true g2
     omega
    ·
     replace g2 := of_decide_eq_false g2
     refine AWP.skip ?_
     refine AWP.region ?_
     refine Y (mv rfl) rfl ?_
     refine Y (bn rfl rfl (BinR.addI (by omega) (by omega)) rfl) rfl ?_
     refine Y (ass rfl) rfl ?_
     refine AOps.nil ?_
     refine ⟨(i + 1, kk + x.length, R'), ?_, ?_, ?_⟩
     ·
      show L.length - (i + 1) < L.length - i
      omega
     ·
      show (i + 1) + R'.length = L.length ∧ (kk + x.length) + sumR R' = k + sumR L ∧ (markR L k).drop (i + 1) = markR R' (kk + x.length)
      exact ⟨by omega, by omega, by rw [← List.tail_drop, hM]; rfl⟩
     · exact Leads.rows 0 ⟨rfl, rfl, rfl, trivial⟩
   ·
    replace g := of_decide_eq_false g
    have hR : R = [] := by cases R with | nil => rfl | cons x R' => (simp at hA; omega)
    subst hR
    rw [sumR] at hkk
    refine AWP.exit ?_
    refine AWP.seq ?_
    refine AWP.region ?_
    refine Y (mv rfl) rfl ?_
    refine Y (ass rfl) rfl ?_
    refine AOps.nil ?_
    refine AWP.ret ⟨.inl rfl, ?_⟩
    exact RetIs.oneV rfl rfl (by (rw [← hkk]; rfl) <;> rfl)
end Go.Proofs.Ytccdgppplkfjfaa
