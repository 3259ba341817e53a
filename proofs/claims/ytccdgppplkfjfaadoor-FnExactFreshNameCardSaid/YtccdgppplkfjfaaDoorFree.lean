/- The free names of an expression. -/
import Derived.Test.YtccdgppplkfjfaaDoorPathe
namespace Go.Proofs.YtccdgppplkfjfaaDoor
open Go Go.Ax Go.Proofs
set_option linter.unusedVariables false
set_option linter.unusedSimpArgs false
set_option maxRecDepth 20000
def withoutL (l : List ByteArray) (t : ByteArray) : List ByteArray := l.filter fun x => decide (x ≠ t)
def withoutI (b : Bool) (i : Nat) (l : List ByteArray) (t : ByteArray) : List ByteArray := if b = true ∧ i = 1 then withoutL l t else l
mutual
def freeT : Tr → List ByteArray
  | .mk k _ t ks => if k = 3 then [t] else freeK ks (bindsB k) t 0 []
def freeK : List Tr → Bool → ByteArray → Nat → List ByteArray → List ByteArray
  | [], _, _, _, out => out
  | k :: ks, b, t, i, out => freeK ks b t (i + 1) (joinL out (withoutI b i (freeT k) t))
end
mutual
def freesT : Tr → List ByteArray → List ByteArray → List ByteArray
  | .mk k _ t ks, bd, out => freesK ks (bindsB k) t 0 bd (if k = 3 ∧ memB bd t = false ∧ memB out t = false then out ++ [t] else out)
def freesK : List Tr → Bool → ByteArray → Nat → List ByteArray → List ByteArray → List ByteArray
  | [], _, _, _, _, out => out
  | k :: ks, b, t, i, bd, out => freesK ks b t (i + 1) bd (freesT k (innerL b i bd t) out)
end
theorem withoutL_length (l : List ByteArray) (t : ByteArray) : (withoutL l t).length ≤ l.length := List.length_filter_le _ _
theorem withoutI_length (b : Bool) (i : Nat) (l : List ByteArray) (t : ByteArray) : (withoutI b i l t).length ≤ l.length := by
  unfold withoutI
  split
  · exact withoutL_length l t
  · exact Nat.le_refl _
mutual
theorem freeT_length : ∀ k : Tr, ((freeT k).length : Int) ≤ sizeT k
  | .mk k n t ks => by
    rw [freeT, sizeT]
    have := freeK_length ks (bindsB k) t 0 []
    have h0 := sizeTs_pos ks
    split
    · simp; omega
    · simp at this ⊢; omega
theorem freeK_length : ∀ (ks : List Tr) (b : Bool) (t : ByteArray) (i : Nat) (out : List ByteArray), ((freeK ks b t i out).length : Int) ≤ out.length + sizeTs ks
  | [], b, t, i, out => by rw [freeK, sizeTs]; omega
  | k :: ks, b, t, i, out => by
    rw [freeK, sizeTs]
    have h1 := freeK_length ks b t (i + 1) (joinL out (withoutI b i (freeT k) t))
    have h2 := joinL_length (withoutI b i (freeT k) t) out
    have h3 := freeT_length k
    have h4 := withoutI_length b i (freeT k) t
    omega
end
theorem memB_iff {l : List ByteArray} {x : ByteArray} : memB l x = true ↔ x ∈ l := by simp [memB]
theorem memB_no {l : List ByteArray} {x : ByteArray} : memB l x = false ↔ x ∉ l := by rw [← memB_iff]; simp
theorem joinL_nil (a : List ByteArray) : joinL a [] = a := rfl
theorem joinL_app : ∀ (b c a : List ByteArray), joinL a (b ++ c) = joinL (joinL a b) c
  | [], c, a => rfl
  | n :: b, c, a => by rw [List.cons_append, joinL, joinL, joinL_app b c]
theorem joinL_mem {x : ByteArray} : ∀ (b a : List ByteArray), x ∈ joinL a b ↔ x ∈ a ∨ x ∈ b
  | [], a => by simp [joinL]
  | n :: b, a => by
    rw [joinL, joinL_mem b]
    split
    · rename_i h
      have h := memB_iff.1 h
      constructor
      · rintro (q | q); exact .inl q; exact .inr (List.mem_cons_of_mem _ q)
      · rintro (q | q)
        · exact .inl q
        · rcases List.mem_cons.1 q with rfl | q
          · exact .inl h
          · exact .inr q
    · simp [or_assoc]
theorem joinL_one (a : List ByteArray) (n : ByteArray) : joinL a [n] = if memB a n = true then a else a ++ [n] := by rw [joinL, joinL]
theorem joinL_assoc (out : List ByteArray) : ∀ (l a : List ByteArray), joinL out (joinL a l) = joinL (joinL out a) l
  | [], a => rfl
  | n :: l, a => by
    rw [joinL, joinL_assoc out l, joinL]
    congr 1
    by_cases h : memB a n = true
    · rw [if_pos h, if_pos (memB_iff.2 ((joinL_mem a out).2 (.inr (memB_iff.1 h))))]
    · rw [if_neg h, joinL_app, joinL_one]
theorem joinL_filter (q : ByteArray → Bool) : ∀ (l a : List ByteArray), (joinL a l).filter q = joinL (a.filter q) (l.filter q)
  | [], a => rfl
  | n :: l, a => by
    rw [joinL, joinL_filter q l]
    by_cases hq : q n = true
    · rw [List.filter_cons_of_pos hq, joinL]
      congr 1
      by_cases h : memB a n = true
      · rw [if_pos h, if_pos (memB_iff.2 (List.mem_filter.2 ⟨memB_iff.1 h, hq⟩))]
      · rw [if_neg h, if_neg (fun h2 => h (memB_iff.2 (List.mem_filter.1 (memB_iff.1 h2)).1)), List.filter_append, List.filter_cons_of_pos hq]; rfl
    · rw [List.filter_cons_of_neg hq]
      congr 1
      split
      · rfl
      · rw [List.filter_append, List.filter_cons_of_neg hq]; simp
def outB (bd : List ByteArray) (x : ByteArray) : Bool := !memB bd x
theorem inner_filter (b : Bool) (i : Nat) (bd l : List ByteArray) (t : ByteArray) : l.filter (outB (innerL b i bd t)) = (withoutI b i l t).filter (outB bd) := by
  unfold innerL withoutI
  split
  · rw [withoutL, List.filter_filter]
    refine List.filter_congr fun x _ => ?_
    simp [outB, memB, Bool.and_comm, eq_comm]
  · rfl
theorem name_kids {nm : Int} {t : ByteArray} {ks : List Tr} {d : Int} (h : validS (.mk 3 nm t ks) d = true) : ks = [] := by
  obtain ⟨_, h2, _⟩ := validS_inv h
  have : inR ks.length 0 0 = true := by simpa [lowV, highV] using h2
  simp [inR] at this
  exact this
mutual
theorem frees_eq : ∀ (k : Tr) (bd out : List ByteArray) (d : Int), validS k d = true → freesT k bd out = joinL out ((freeT k).filter (outB bd))
  | .mk k n t ks, bd, out, d, h => by
    rw [freesT, freeT]
    by_cases hk : k = 3
    · subst hk
      have := name_kids h
      subst this
      rw [freesK, if_pos rfl]
      by_cases h1 : memB bd t = true
      · rw [if_neg (by rw [h1]; simp), List.filter_cons_of_neg (by rw [outB, h1]; simp)]; rfl
      · have h1' : memB bd t = false := by simpa using h1
        rw [List.filter_cons_of_pos (by rw [outB, h1']; rfl), List.filter_nil, joinL_one]
        by_cases h2 : memB out t = true
        · rw [if_neg (by rw [h2]; simp), if_pos h2]
        · have h2' : memB out t = false := by simpa using h2
          rw [if_pos ⟨rfl, h1', h2'⟩, if_neg h2]
    · rw [if_neg (fun e => hk e.1), if_neg hk]
      have := freesK_eq ks (bindsB k) t 0 bd out [] (d - 1) (validS_inv h).2.2
      simpa [joinL] using this
theorem freesK_eq : ∀ (ks : List Tr) (b : Bool) (t : ByteArray) (i : Nat) (bd out acc : List ByteArray) (d : Int), validSs ks d = true → freesK ks b t i bd (joinL out (acc.filter (outB bd))) = joinL out ((freeK ks b t i acc).filter (outB bd))
  | [], b, t, i, bd, out, acc, d, h => by rw [freesK, freeK]
  | k :: ks, b, t, i, bd, out, acc, d, h => by
    rw [validSs, Bool.and_eq_true] at h
    rw [freesK, freeK, frees_eq k _ _ d h.1, inner_filter, ← joinL_assoc, ← joinL_filter]
    exact freesK_eq ks b t (i + 1) bd out _ d h.2
end
mutual
theorem freesT_length : ∀ (k : Tr) (bd out : List ByteArray), ((freesT k bd out).length : Int) ≤ out.length + sizeT k
  | .mk k n t ks, bd, out => by
    rw [freesT, sizeT]
    have := freesK_length ks (bindsB k) t 0 bd (if k = 3 ∧ memB bd t = false ∧ memB out t = false then out ++ [t] else out)
    split at this
    · rename_i h; rw [if_pos h]; simp at this ⊢; omega
    · rename_i h; rw [if_neg h]; omega
theorem freesK_length : ∀ (ks : List Tr) (b : Bool) (t : ByteArray) (i : Nat) (bd out : List ByteArray), ((freesK ks b t i bd out).length : Int) ≤ out.length + sizeTs ks
  | [], b, t, i, bd, out => by rw [freesK, sizeTs]; omega
  | k :: ks, b, t, i, bd, out => by
    rw [freesK, sizeTs]
    have h1 := freesK_length ks b t (i + 1) bd (freesT k (innerL b i bd t) out)
    have h2 := freesT_length k (innerL b i bd t) out
    omega
end
def outS (b : Nat) (l : List ByteArray) : AV → Hp → Prop := fun r hp' => ∃ B : Option Nat, r = .tup [] ∧ hp' = [(some b, ⟨1, [.loc B 0 l.length l.length 1]⟩), (B, ⟨1, strs l⟩)]
theorem free_loc (B : Option Nat) (o l k n : Nat) : Free (.loc B o l k n) := fun w ok ok' cs F hr => by cases B <;> simpa only [Rep] using hr
theorem outS.free {b : Nat} {l : List ByteArray} {r : AV} {hp' : Hp} (h : outS b l r hp') : Free r ∧ ∀ B row, (B, row) ∈ hp' → FreeL row.xs := by
  obtain ⟨B, rfl, rfl⟩ := h
  refine ⟨fun w ok ok' cs F hr => by simpa [Rep, RepT] using hr, fun B' row hm => ?_⟩
  simp at hm
  rcases hm with ⟨rfl, rfl⟩ | ⟨rfl, rfl⟩
  · exact ⟨free_loc _ _ _ _ _, trivial⟩
  · exact freeL_strs l
theorem outB_nil (l : List ByteArray) : l.filter (outB []) = l := List.filter_eq_self.2 fun x _ => rfl
theorem joinL_self : ∀ (l a : List ByteArray), (a ++ l).Nodup → joinL a l = a ++ l
  | [], a, _ => by simp [joinL]
  | n :: l, a, h => by
    have hn : n ∉ a := fun hh => (List.nodup_append.1 h).2.2 n hh n (List.mem_cons_self ..) rfl
    rw [joinL, if_neg (fun q => hn (memB_iff.1 q)), joinL_self l (a ++ [n]) (by rw [List.append_assoc]; exact h), List.append_assoc]; rfl
theorem joinL_nodup : ∀ (l a : List ByteArray), a.Nodup → (joinL a l).Nodup
  | [], a, h => h
  | n :: l, a, h => by
    rw [joinL]
    refine joinL_nodup l _ ?_
    split
    · exact h
    · rename_i q
      refine List.nodup_append.2 ⟨h, by simp, fun x hx y hy e => ?_⟩
      rw [List.mem_singleton.1 hy] at e
      exact q (memB_iff.2 (e ▸ hx))
mutual
theorem freeT_nodup : ∀ k : Tr, (freeT k).Nodup
  | .mk k n t ks => by
    rw [freeT]
    split
    · simp
    · exact freeK_nodup ks _ t 0 [] List.nodup_nil
theorem freeK_nodup : ∀ (ks : List Tr) (b : Bool) (t : ByteArray) (i : Nat) (out : List ByteArray), out.Nodup → (freeK ks b t i out).Nodup
  | [], b, t, i, out, h => h
  | k :: ks, b, t, i, out, h => by
    rw [freeK]
    exact freeK_nodup ks b t (i + 1) _ (joinL_nodup _ _ h)
end
theorem frees_free (k : Tr) (d : Int) (h : validS k d = true) : freesT k [] [] = freeT k := by
  rw [frees_eq k [] [] d h, outB_nil, joinL_self _ [] (show ([] ++ freeT k).Nodup from freeT_nodup k)]; rfl
def freeE (k : Tr) : List ByteArray := if okE k = true then freeT k else []
theorem freeE_length (k : Tr) : ((freeE k).length : Int) ≤ sizeT k := by
  unfold freeE
  split
  · exact freeT_length k
  · have := sizeT_pos k; simp; omega
theorem okE_valid {k : Tr} (h : okE k = true) : validS k 9 = true := by rw [okE, Bool.and_eq_true] at h; exact h.1
theorem freeE_no {k : Tr} (h : okE k = false) : freeE k = [] := if_neg (by rw [h]; simp)
end Go.Proofs.YtccdgppplkfjfaaDoor
