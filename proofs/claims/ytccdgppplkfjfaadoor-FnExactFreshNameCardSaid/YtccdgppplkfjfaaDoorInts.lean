/- Lists of numbers: as they come from outside; marks. -/
import Derived.Test.YtccdgppplkfjfaaDoorOwn
namespace Go.Proofs.YtccdgppplkfjfaaDoor
open Go Go.Ax Go.Proofs
set_option linter.unusedVariables false
set_option linter.unusedSimpArgs false
set_option maxRecDepth 20000
def ints (l : List Int) : List AV := l.map fun n => .val (.int .i64 n)
theorem ints_length (l : List Int) : (ints l).length = l.length := by simp [ints]
theorem ints_at {l : List Int} {i : Nat} {n : Int} (h : l[i]? = some n) : (ints l)[i]? = some (int n) := by simp [ints, h]
theorem plain_ints : ∀ l : List Int, plainL (ints l) = true
  | [] => rfl
  | n :: l => by simp only [ints, List.map_cons, plainL, plainV, Bool.true_and]; exact plain_ints l
theorem viewL_ints (l : List Int) : ViewL (ints l) (ints l) := viewL_refl (plain_ints l)
theorem freeL_ints : ∀ l : List Int, FreeL (ints l)
  | [] => trivial
  | n :: l => ⟨Free.val, freeL_ints l⟩
theorem ints_append (l m : List Int) : ints (l ++ m) = ints l ++ ints m := by simp [ints]
theorem ints_app (l : List Int) (n : Int) : ints l ++ [int n] = ints (l ++ [n]) := by simp [ints]
def fillI : Int := -7000000000000000101
def spareI (b : Bool) (n : Nat) : List Int := if b && decide (n = 0) then [] else List.replicate (Tr.room n) fillI
def ownI (b : Bool) (l : List Int) : AV → Hp → Prop := fun r hp' => ∃ B : Option Nat, r = .loc B 0 l.length (l.length + (spareI b l.length).length) 1 ∧ hp' = [(B, ⟨1, ints l ++ ints (spareI b l.length)⟩)]
theorem bor_ints {hp : Hp} {B : Option Nat} {j : Nat} {l m : List Int} (hj : hp[j]? = some (B, ⟨1, ints l ++ ints m⟩)) {len k : Nat} (hl : len = l.length) : Bor hp (.loc B 0 len k 1) (.ro 1 (ints l) [] false) := by
  subst hl
  exact Bor.loc hj (by simp [ints]) (by rw [List.take_left' (ints_length l)]; exact viewL_ints l)
theorem bor_intsR {hp : Hp} {B : Option Nat} {j : Nat} {l m : List Int} (hj : hp[j]? = some (B, ⟨1, ints l ++ ints m⟩)) : Bor hp (.loc B 0 l.length (l.length + m.length) 1) (.ro 1 (ints l) (ints m) false) :=
  Bor.locR hj (by simp [ints]) (by simp [ints]) (by rw [List.take_left' (ints_length l)]; exact viewL_ints l) (by rw [List.drop_left' (ints_length l)]; exact viewL_ints m)
theorem ownI.fz {b : Bool} {l : List Int} {r : AV} {hp' : Hp} (h : ownI b l r hp') : Fz hp' r (.ro 1 (ints l) (ints (spareI b l.length)) false) := by
  obtain ⟨B, rfl, rfl⟩ := h
  exact (bor_intsR (j := 0) rfl).fz
theorem ints_set {l : List Int} {i : Nat} {n : Int} {r : List AV} (h : i < l.length) : (ints l ++ r).set i (int n) = ints (l.set i n) ++ r := by
  rw [List.set_append_left _ _ (by rw [ints_length]; exact h)]
  congr 1
  simp [ints, List.map_set]
theorem setI_step {A : List Int} {z v : Int} {m i : Nat} (hA : A.length = i) (hm : 0 < m) : (ints (A ++ List.replicate m z)).set (0 + i) (int v) = ints ((A ++ [v]) ++ List.replicate (m - 1) z) := by
  subst hA
  cases m with
  | zero => omega
  | succ m => simp [ints, List.replicate_succ, List.set_append]
theorem getI_step {A : List Int} {z : Int} {m i : Nat} (hA : A.length = i) (hm : 0 < m) : (ints (A ++ List.replicate m z))[0 + i]? = some (int z) := by
  subst hA
  cases m with
  | zero => omega
  | succ m => simp [ints, List.replicate_succ]
theorem takeI_succ {l : List Int} {i : Nat} {n : Int} (h : l[i]? = some n) : l.take (i + 1) = l.take i ++ [n] := by rw [List.take_add_one, h]; rfl
theorem zerosI (n : Nat) : List.replicate n (avOf (.int .i64 0)) = ints (List.replicate n 0) := by simp [ints, avOf]

def markIs : Nat → Nat → List Int
  | 0, _ => []
  | n + 1, k => (k : Int) :: markIs n (k + 1)
theorem markIs_length : ∀ n k, (markIs n k).length = n
  | 0, _ => rfl
  | n + 1, k => by simp [markIs, markIs_length n]
theorem markIs_at : ∀ {n k i : Nat}, i < n → (markIs n k)[i]? = some ((k + i : Nat) : Int)
  | 0, _, _, h => by omega
  | n + 1, k, 0, h => by simp [markIs]
  | n + 1, k, i + 1, h => by
    simp only [markIs, List.getElem?_cons_succ]
    rw [markIs_at (by omega)]
    congr 2; omega
theorem markIs_set {l : List Int} {k i : Nat} {r : List AV} (h : i < l.length) : (ints ((markIs l.length k).take i ++ l.drop i) ++ r).set (0 + i) (int ((k + i : Nat) : Int)) = ints ((markIs l.length k).take (i + 1) ++ l.drop (i + 1)) ++ r := by
  have h1 : ((markIs l.length k).take i).length = i := by rw [List.length_take, markIs_length]; omega
  rw [Nat.zero_add, ints_set (by simp [h1]; omega)]
  congr 2
  rw [takeI_succ (markIs_at h), List.set_append_right _ _ (by omega), h1, Nat.sub_self, List.drop_eq_getElem_cons h, List.set_cons_zero]
  simp
end Go.Proofs.YtccdgppplkfjfaaDoor
