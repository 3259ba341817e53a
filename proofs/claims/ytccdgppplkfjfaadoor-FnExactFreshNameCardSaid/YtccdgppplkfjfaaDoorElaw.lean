/- ExprOk, ExprSize, ExprSame: that both programs answer alike; the laws. -/
import Derived.Test.YtccdgppplkfjfaaDoorEok
import Derived.Test.YtccdgppplkfjfaaDoorSame
namespace Go.Proofs.YtccdgppplkfjfaaDoor
open Go Go.Ax Go.Proofs
set_option linter.unusedVariables false
set_option linter.unusedSimpArgs false
set_option maxRecDepth 20000

theorem coreL_shift (l : List UInt8) : ∀ n : Nat, coreL l (n + 1) = ((coreL l n).1, (coreL l n).2 + 1) := by
  induction hl : l.length using Nat.strongRecOn generalizing l with
  | _ k ih =>
    intro n
    by_cases h : brB l = true
    · have := inner_length h
      rw [coreL_br h, coreL_br h]
      exact ih (inner l).length (by omega) (inner l) rfl (n + 1)
    · rw [coreL_end (by simpa using h), coreL_end (by simpa using h)]
theorem brB_wrap (l : List UInt8) : brB (91 :: (l ++ [93])) = true := by
  have e : (91 :: (l ++ [93]))[(91 :: (l ++ [93])).length - 1]? = some (93 : UInt8) := by
    rw [List.getElem?_eq_some_iff]
    exact ⟨by simp, by simp⟩
  unfold brB
  rw [e]
  simp
theorem inner_wrap (l : List UInt8) : inner (91 :: (l ++ [93])) = l := by simp [inner]
theorem typeOk_of_list (t : ByteArray) (h : typeOkL (listT t).data.toList = true) : typeOkL t.data.toList = true := by
  rw [listT, wrapped_data] at h
  unfold typeOkL at h ⊢
  rw [coreL_br (brB_wrap _), inner_wrap, coreL_shift] at h
  simp only [Bool.and_eq_true, decide_eq_true_eq] at h ⊢
  exact ⟨by omega, h.2⟩
theorem shape_eq (k nm : Int) (t : ByteArray) (n : Nat) : shapeV k nm t n = (inR k 0 15 && (textV k t && (inR nm 0 (mostV k) && inR n (lowV k) (highV k)))) := by
  by_cases hr : inR k 0 15 = true
  · have hk : k = 0 ∨ k = 1 ∨ k = 2 ∨ k = 3 ∨ k = 4 ∨ k = 5 ∨ k = 6 ∨ k = 7 ∨ k = 8 ∨ k = 9 ∨ k = 10 ∨ k = 11 ∨ k = 12 ∨ k = 13 ∨ k = 14 ∨ k = 15 := by
      simp [inR] at hr; omega
    rw [hr, Bool.true_and]
    have hto := typeOk_of_list t
    rcases hk with rfl | rfl | rfl | rfl | rfl | rfl | rfl | rfl | rfl | rfl | rfl | rfl | rfl | rfl | rfl | rfl
    all_goals
      rw [Bool.eq_iff_iff]
      simp [shapeV, textV, lowV, highV, mostV, inR]
      try constructor
      all_goals (intros; simp_all <;> omega)
  · have hr' : inR k 0 15 = false := by simpa using hr
    rw [hr', Bool.false_and]
    simp [inR] at hr
    unfold shapeV
    rw [if_neg (by omega), if_neg (by omega), if_neg (by omega), if_neg (by omega), if_neg (by omega), if_neg (by omega), if_neg (by omega), if_neg (by omega), if_neg (by omega), if_neg (by omega), if_neg (by omega), if_neg (by omega), if_neg (by omega), Bool.and_false]

def okAt (k : Tr) (n tall : Int) : Bool := validS k (10 - tall) && decide (n + sizeT k ≤ 40)
theorem fitsL_eq (ks : List Tr) (tall : Int) (ih : ∀ k ∈ ks, ∀ n : Int, 0 ≤ n → n ≤ 40 → (fitsT k n tall).1 = okAt k n tall ∧ ((fitsT k n tall).1 = true → (fitsT k n tall).2 = n + sizeT k)) :
    ∀ n : Int, 0 ≤ n → n ≤ 40 → (fitsL ks n tall).1 = (validSs ks (10 - tall) && decide (n + sizeTs ks ≤ 40)) ∧ ((fitsL ks n tall).1 = true → (fitsL ks n tall).2 = n + sizeTs ks) := by
  induction ks with
  | nil => intro n h0 h1; rw [fitsL, validSs, sizeTs]; simp; omega
  | cons k ks ihl =>
    intro n h0 h1
    obtain ⟨g1, g2⟩ := ih k (List.mem_cons_self ..) n h0 h1
    have hle := fitsT_le k n tall h0 h1
    have hp := sizeT_pos k
    have hps := sizeTs_pos ks
    rw [fitsL, validSs, sizeTs]
    by_cases hc : (fitsT k n tall).1 = false
    · rw [if_pos hc]
      rw [hc] at g1
      refine ⟨?_, fun h => by cases h⟩
      show false = _
      symm
      unfold okAt at g1
      by_cases hv : validS k (10 - tall) = true
      · rw [hv, Bool.true_and] at g1
        have : ¬ n + sizeT k ≤ 40 := of_decide_eq_false g1.symm
        rw [decide_eq_false (by omega), Bool.and_false]
      · have hv' : validS k (10 - tall) = false := by simpa using hv
        rw [hv']; simp
    · rw [if_neg hc]
      have hc' : (fitsT k n tall).1 = true := by simpa using hc
      rw [hc'] at g1
      have h2 := g2 hc'
      unfold okAt at g1
      have g1' := g1.symm
      simp only [Bool.and_eq_true, decide_eq_true_eq] at g1'
      obtain ⟨q1, q2⟩ := ihl (fun k hk => ih k (List.mem_cons_of_mem _ hk)) (fitsT k n tall).2 hle.1 (hle.2 hc')
      rw [q1, g1'.1, Bool.true_and, h2]
      refine ⟨?_, fun h => ?_⟩
      · rw [Int.add_assoc]
      · have := q2 (by rw [q1, h2]; exact h)
        rw [h2] at this
        rw [this, Int.add_assoc]
theorem fitsT_eq (k : Tr) : ∀ n tall : Int, 1 ≤ tall → tall ≤ 10 → 0 ≤ n → n ≤ 40 → (fitsT k n tall).1 = okAt k n tall ∧ ((fitsT k n tall).1 = true → (fitsT k n tall).2 = n + sizeT k) := by
  induction k using Tr.ind
  rename_i kd nm t ks ih
  intro n tall ht0 ht1 hn0 hn1
  have hps := sizeTs_pos ks
  have hse := shape_eq kd nm t ks.length
  unfold okAt
  rw [fitsT, validS, sizeT]
  by_cases h9 : 9 < tall
  · rw [if_pos (.inr (.inl h9)), if_pos (.inl (by omega))]
    exact ⟨by simp, fun h => by cases h⟩
  by_cases hsh : shapeV kd nm t ks.length = false
  · rw [if_pos (.inr (.inr hsh))]
    rw [hsh] at hse
    have hse' := hse.symm
    rw [if_pos (by
      right
      by_cases q1 : inR kd 0 15 = true
      · by_cases q2 : textV kd t = true
        · by_cases q3 : inR nm 0 (mostV kd) = true
          · rw [q1, q2, q3] at hse'; simp only [Bool.true_and] at hse'
            exact .inr (.inr (.inr hse'))
          · exact .inr (.inr (.inl (by simpa using q3)))
        · exact .inr (.inl (by simpa using q2))
      · exact .inl (by simpa using q1))]
    exact ⟨by simp, fun h => by cases h⟩
  have hsh' : shapeV kd nm t ks.length = true := by simpa using hsh
  rw [hsh'] at hse
  have hse' := hse.symm
  simp only [Bool.and_eq_true] at hse'
  obtain ⟨q1, q2, q3, q4⟩ := hse'
  have hv : ¬ (10 - tall = 0 ∨ inR kd 0 15 = false ∨ textV kd t = false ∨ inR nm 0 (mostV kd) = false ∨ inR ks.length (lowV kd) (highV kd) = false) := by
    rw [q1, q2, q3, q4]
    rintro (q | q | q | q | q)
    · omega
    all_goals cases q
  rw [if_neg hv]
  by_cases h40 : 40 < n + 1
  · rw [if_pos (.inl h40), decide_eq_false (by omega), Bool.and_false]
    exact ⟨rfl, fun h => by cases h⟩
  · rw [if_neg (by rintro (q | q | q); exact h40 q; exact h9 q; exact hsh q)]
    obtain ⟨r1, r2⟩ := fitsL_eq ks (tall + 1) (fun k hk m hm0 hm1 => ih k hk m (tall + 1) (by omega) (by omega) hm0 hm1) (n + 1) (by omega) (by omega)
    have e : (10 : Int) - tall - 1 = 10 - (tall + 1) := by omega
    rw [e, r1]
    refine ⟨?_, fun h => ?_⟩
    · rw [show n + 1 + sizeTs ks = n + (1 + sizeTs ks) by omega]
    · have := r2 (by rw [r1]; exact h)
      rw [this]; omega
def okE (k : Tr) : Bool := validS k 9 && decide (sizeT k ≤ 40)
theorem okE_eq (k : Tr) : (fitsT k 0 1).1 = okE k := by
  have := (fitsT_eq k 0 1 (by omega) (by omega) (by omega) (by omega)).1
  rw [this, okAt, okE, Int.zero_add]; rfl
theorem iExprOk_AF' (k : Tr) (hk : k.bnd 1000000) : Fn 25 [k.av] (bool (okE k)) := okE_eq k ▸ iExprOk_AF k hk
theorem sExprOk_AF (k : Tr) (hk : k.bnd 1000000) (hz : sizeT k ≤ 2000000) : Fn 22 [k.av] (bool (okE k)) := by
  obtain ⟨kd, nm, t, ks⟩ := k
  refine AF.intro Tryd.func22 nm22 rfl rfl rfl rfl fun w0 ok0 => ?_
  refine AWP.seq ?_
  refine AWP.region ?_
  refine AOps.box rfl rfl rfl rfl fun b1 => ?_
  refine Y (ass rfl) rfl ?_
  refine AOps.nil ?_
  refine AWP.seq ?_
  refine AWP.region ?_
  refine Y (Yields.load_ptr_agg (j := 0) kd29 rfl rfl rfl rfl) rfl ?_
  refine AOps.callro (validS_AF (.mk kd nm t ks) 9 hk (by omega) (by omega)) rfl rfl rfl ?_
  refine Y (mv rfl) rfl ?_
  refine AOps.split 5 rfl (fun h => ?_) (fun h => ?_)
  ·
   skip
   refine AOps.on rfl rfl ?_
   refine Y (Yields.load_ptr_agg (j := 0) kd29 rfl rfl rfl rfl) rfl ?_
   refine AOps.on rfl rfl ?_
   refine AOps.callro (ssize_AF (.mk kd nm t ks) hk hz) rfl rfl rfl ?_
   refine AOps.on rfl rfl ?_
   refine Y (bn rfl rfl BinR.leq rfl) rfl ?_
   refine Y (Yields.pick_true rfl rfl) rfl ?_
   refine Y (ass rfl) rfl ?_
   refine AOps.nil ?_
   refine AWP.ret ⟨.inl rfl, ?_⟩
   exact RetIs.oneV rfl rfl (by (rw [okE, h]; rfl) <;> rfl)
  ·
   skip
   refine AOps.off' rfl rfl rfl rfl ?_
   refine AOps.off' rfl rfl rfl rfl ?_
   refine AOps.off' rfl rfl rfl rfl ?_
   refine Y (Yields.pick_false rfl rfl) rfl ?_
   refine Y (ass rfl) rfl ?_
   refine AOps.nil ?_
   refine AWP.ret ⟨.inl rfl, ?_⟩
   exact RetIs.oneV rfl rfl (by (rw [okE, h]; rfl) <;> rfl)
def sizeE (k : Tr) : Int := if okE k = true then sizeT k else -1
end Go.Proofs.YtccdgppplkfjfaaDoor
