/- Names and types as lists of bytes: what the two programs compute, and that it is one. No program here. -/
import Derived.Test.YtccdgppplkfjfaaDoorAx
import Derived.Lib.IndexMore
namespace Go.Proofs.YtccdgppplkfjfaaDoor
open Go Go.Ax
set_option linter.unusedVariables false
set_option linter.unusedSimpArgs false

def kwList : List (List UInt8) := [[105, 110, 116], [98, 111, 111, 108], [116, 101, 120, 116], [116, 114, 117, 101], [102, 97, 108, 115, 101], [105, 102], [116, 104, 101, 110], [101, 108, 115, 101], [108, 101, 116], [105, 110], [102, 111, 114], [102, 117, 110],
  [116, 121, 112, 101], [117, 115, 101], [110, 111, 116], [115, 105, 122, 101], [97, 116], [115, 97, 121]]
def kwBytes : List ByteArray := kwList.map fun l => ⟨l.toArray⟩
def joinSp : List (List UInt8) → List UInt8
  | [] => [32]
  | w :: ws => 32 :: (w ++ joinSp ws)
def noSp (l : List UInt8) : Prop := ∀ c ∈ l, c ≠ 32

theorem contains_cons (b : UInt8) (l sub : List UInt8) (h : sub ≠ []) : Lib.contains (b :: l) sub = (sub.isPrefixOf (b :: l) || Lib.contains l sub) := by
  unfold Lib.contains
  have hu : Lib.index (b :: l) sub = if sub.isPrefixOf (b :: l) = true then 0 else if Lib.index l sub == -1 then -1 else Lib.index l sub + 1 := by
    conv => lhs; unfold Lib.index
  have hg := Lib.index_ge l sub
  by_cases hp : sub.isPrefixOf (b :: l) = true
  · rw [hu, if_pos hp, hp]; simp
  · have hp' : sub.isPrefixOf (b :: l) = false := Bool.eq_false_iff.2 hp
    rw [hu, if_neg hp, hp', Bool.false_or]
    by_cases hi : Lib.index l sub = -1
    · simp [hi]
    · have : (Lib.index l sub == -1) = false := by simpa using hi
      rw [this]
      simp only [Bool.false_eq_true, if_false]
      have h1 : 0 ≤ Lib.index l sub := by omega
      have h2 : 0 ≤ Lib.index l sub + 1 := by omega
      simp [h1, h2]

theorem contains_skip (t r : List UInt8) : ∀ (w : List UInt8), noSp w → Lib.contains (w ++ r) (32 :: t) = Lib.contains r (32 :: t)
  | [], _ => rfl
  | c :: w, h => by
    rw [List.cons_append, contains_cons _ _ _ (by simp)]
    have hc : c ≠ 32 := h c (by simp)
    have : (32 :: t).isPrefixOf (c :: (w ++ r)) = false := by
      simp only [List.isPrefixOf]
      rw [show ((32 : UInt8) == c) = false by simpa using fun e => hc e.symm]
      rfl
    rw [this, Bool.false_or]
    exact contains_skip t r w (fun x hx => h x (by simp [hx]))

theorem prefix_word : ∀ (s w r : List UInt8), noSp s → noSp w → (s ++ [32]).isPrefixOf (w ++ 32 :: r) = (s == w)
  | [], [], r, _, _ => by simp [List.isPrefixOf]
  | [], c :: w, r, _, hw => by
    have : c ≠ 32 := hw c (by simp)
    simp only [List.nil_append, List.cons_append, List.isPrefixOf]
    rw [show ((32 : UInt8) == c) = false by simpa using fun e => this e.symm]
    rfl
  | c :: s, [], r, hs, _ => by
    have : c ≠ 32 := hs c (by simp)
    simp only [List.nil_append, List.cons_append, List.isPrefixOf]
    rw [show (c == (32 : UInt8)) = false by simpa using this]
    rfl
  | c :: s, d :: w, r, hs, hw => by
    simp only [List.cons_append, List.isPrefixOf, List.cons_beq_cons]
    rw [prefix_word s w r (fun x hx => hs x (by simp [hx])) (fun x hx => hw x (by simp [hx]))]

theorem joinSp_head : ∀ ws, ∃ r, joinSp ws = 32 :: r
  | [] => ⟨[], rfl⟩
  | w :: ws => ⟨_, rfl⟩

theorem contains_join (s : List UInt8) (hs : noSp s) : ∀ ws : List (List UInt8), (∀ w ∈ ws, noSp w) → Lib.contains (joinSp ws) (32 :: (s ++ [32])) = ws.contains s
  | [], _ => by
    rw [joinSp, contains_cons _ _ _ (by simp)]
    have h1 : (32 :: (s ++ [32])).isPrefixOf [32] = false := by
      cases s <;> simp [List.isPrefixOf]
    have h2 : Lib.contains [] (32 :: (s ++ [32])) = false := by
      unfold Lib.contains Lib.index; simp
    rw [h1, h2]; simp
  | w :: ws, h => by
    obtain ⟨r, hr⟩ := joinSp_head ws
    rw [joinSp, contains_cons _ _ _ (by simp), contains_skip _ _ w (h w (by simp)), contains_join s hs ws (fun x hx => h x (by simp [hx]))]
    have : (32 :: (s ++ [32])).isPrefixOf (32 :: (w ++ joinSp ws)) = (s == w) := by
      rw [List.isPrefixOf]
      simp only [BEq.rfl, Bool.true_and]
      rw [hr, prefix_word s w r hs (h w (by simp))]
    rw [this, List.contains_cons]

def lowB (c : UInt8) : Bool := decide ((97 : Int) ≤ c.toNat) && decide ((c.toNat : Int) ≤ 122)
def digB (c : UInt8) : Bool := decide ((48 : Int) ≤ c.toNat) && decide ((c.toNat : Int) ≤ 57)
def isNameL (l : List UInt8) : Bool := (match l with | [] => false | c :: _ => lowB c) && l.all (fun c => lowB c || digB c) && decide (l.length ≤ 8) && !kwList.contains l

theorem isName_bad {l : List UInt8} {i : Nat} {c : UInt8} (hc : l[i]? = some c) (h1 : lowB c = false) (h2 : i = 0 ∨ digB c = false) : isNameL l = false := by
  rcases h2 with rfl | h2
  · cases l with
    | nil => simp at hc
    | cons d l => simp at hc; subst hc; simp [isNameL, h1]
  · have : l.all (fun c => lowB c || digB c) = false := by
      rw [List.all_eq_false]
      exact ⟨c, List.mem_of_getElem? hc, by simp [h1, h2]⟩
    simp [isNameL, this]
theorem isName_long {l : List UInt8} (h : l.length < 1 ∨ 8 < l.length) : isNameL l = false := by
  rcases h with h | h
  · have : l = [] := List.length_eq_zero_iff.1 (by omega)
    subst this; rfl
  · have : ¬ l.length ≤ 8 := by omega
    simp [isNameL, this]
theorem isName_end {l : List UInt8} (h : ∀ i c, l[i]? = some c → lowB c = true ∨ (i ≠ 0 ∧ digB c = true)) : isNameL l = (decide (1 ≤ l.length) && decide (l.length ≤ 8) && !kwList.contains l) := by
  cases l with
  | nil => rfl
  | cons d l =>
    have h0 : lowB d = true := by
      rcases h 0 d (by simp) with h | h
      · exact h
      · exact absurd rfl h.1
    have h1 : (d :: l).all (fun c => lowB c || digB c) = true := by
      rw [List.all_eq_true]
      intro c hc
      obtain ⟨i, hi⟩ := List.getElem?_of_mem hc
      rcases h i c hi with h | h
      · simp [h]
      · simp [h.2]
    unfold isNameL
    rw [h1]
    simp [h0]
theorem noSp_of {l : List UInt8} (h : l.all (fun c => lowB c || digB c) = true) : noSp l := by
  intro c hc e
  rw [List.all_eq_true] at h
  have := h c hc
  subst e
  revert this
  decide
theorem kw_noSp : ∀ w ∈ kwList, noSp w := by
  unfold noSp
  decide
theorem isName_contains {l : List UInt8} (h : ∀ i c, l[i]? = some c → lowB c = true ∨ (i ≠ 0 ∧ digB c = true)) : Lib.contains (joinSp kwList) (32 :: (l ++ [32])) = kwList.contains l := by
  refine contains_join l (noSp_of ?_) kwList kw_noSp
  rw [List.all_eq_true]
  intro c hc
  obtain ⟨i, hi⟩ := List.getElem?_of_mem hc
  rcases h i c hi with h | h
  · simp [h]
  · simp [h.2]

theorem data_append (a b : ByteArray) : (a ++ b).data.toList = a.data.toList ++ b.data.toList := by simp
theorem data_extract (s : ByteArray) (a b : Nat) : (s.extract a b).data.toList = (s.data.toList.drop a).take (b - a) := by simp
theorem data_length (s : ByteArray) : s.data.toList.length = s.size := by rw [Array.length_toList]; rfl
theorem strEq (s : ByteArray) (a : Array UInt8) : (s = ⟨a⟩) = (s.data.toList = a.toList) := by
  apply propext
  constructor
  · rintro rfl; rfl
  · intro h; cases s; simpa using h
theorem bytes_ext {a b : ByteArray} (h : a.data.toList = b.data.toList) : a = b := by
  cases a; cases b; simpa using h

def brB (l : List UInt8) : Bool := decide (2 ≤ l.length) && (l[0]? == some 91) && (l[l.length - 1]? == some 93)
def inner (l : List UInt8) : List UInt8 := (l.drop 1).take (l.length - 1 - 1)
theorem inner_length {l : List UInt8} (h : brB l = true) : (inner l).length + 2 = l.length := by
  simp only [brB, Bool.and_eq_true, decide_eq_true_eq] at h
  simp [inner]; omega
def coreL (l : List UInt8) (n : Nat) : List UInt8 × Nat := if h : brB l = true then coreL (inner l) (n + 1) else (l, n)
termination_by l.length
decreasing_by have := inner_length h; omega
theorem coreL_br {l : List UInt8} {n : Nat} (h : brB l = true) : coreL l n = coreL (inner l) (n + 1) := by rw [coreL, dif_pos h]
theorem coreL_end {l : List UInt8} {n : Nat} (h : brB l = false) : coreL l n = (l, n) := by rw [coreL, dif_neg (by simp [h])]
theorem coreL_ge (l : List UInt8) : ∀ n, n ≤ (coreL l n).2 := by
  induction hl : l.length using Nat.strongRecOn generalizing l with
  | _ k ih =>
    intro n
    by_cases h : brB l = true
    · rw [coreL_br h]
      have := inner_length h
      have := ih (inner l).length (by omega) (inner l) rfl (n + 1)
      omega
    · rw [coreL_end (by simpa using h)]; exact Nat.le_refl _
def plainT (l : List UInt8) : Bool := decide (l = [105, 110, 116]) || decide (l = [98, 111, 111, 108]) || decide (l = [116, 101, 120, 116])
def typeOkL (l : List UInt8) : Bool := decide ((coreL l 0).2 ≤ 2) && (plainT (coreL l 0).1 || isNameL (coreL l 0).1)
def baseL : Nat → List UInt8 → List UInt8
  | 0, l => l
  | k + 1, l => if brB l = true then baseL k (inner l) else l
theorem br_not {l : List UInt8} (h : brB l = true) : (plainT l || isNameL l) = false := by
  simp only [brB, Bool.and_eq_true, beq_iff_eq] at h
  obtain ⟨⟨h1, h2⟩, h3⟩ := h
  cases l with
  | nil => simp at h1
  | cons c l =>
    simp only [List.getElem?_cons_zero, Option.some.injEq] at h2
    subst h2
    have : lowB 91 = false := by decide
    simp [plainT, isNameL, this]
theorem baseL_core : ∀ (k : Nat) (l : List UInt8) (n : Nat), (decide ((coreL l n).2 ≤ n + k) && (plainT (coreL l n).1 || isNameL (coreL l n).1)) = (plainT (baseL k l) || isNameL (baseL k l))
  | 0, l, n => by
    by_cases h : brB l = true
    · rw [baseL, br_not h, coreL_br h]
      have := coreL_ge (inner l) (n + 1)
      have : ¬ (coreL (inner l) (n + 1)).2 ≤ n + 0 := by omega
      rw [decide_eq_false this]; rfl
    · rw [coreL_end (by simpa using h)]; simp [baseL]
  | k + 1, l, n => by
    by_cases h : brB l = true
    · rw [baseL, if_pos h, coreL_br h, ← baseL_core k (inner l) (n + 1)]
      rw [show n + (k + 1) = n + 1 + k by omega]
    · rw [baseL, if_neg h, coreL_end (by simpa using h)]; simp
theorem typeOk_base (l : List UInt8) : typeOkL l = (plainT (baseL 2 l) || isNameL (baseL 2 l)) := by
  have := baseL_core 2 l 0
  simpa [typeOkL] using this
end Go.Proofs.YtccdgppplkfjfaaDoor
