/- Plain laws of paths, of what is put there, and of free names. -/
import Derived.Test.YteieleejhbljfaaGreatLists
import Derived.Test.YteieleejhbljfaaGreatPathe
import Derived.Test.YteieleejhbljfaaGreatFree
namespace Go.Proofs.YteieleejhbljfaaGreat
open Go Go.Ax Go.Proofs
set_option linter.unusedVariables false
set_option linter.unusedSimpArgs false
set_option maxRecDepth 20000
theorem atT_in {a b : Int} {c : ByteArray} {ks : List Tr} {j : Nat} {q : List Int} {x : Tr} (h : ks[j]? = some x) : atT (.mk a b c ks) ((j : Int) :: q) = atT x q := by
  have hj := (List.getElem?_eq_some_iff.1 h).1
  exact atT_step ⟨by omega, by omega⟩ (by simpa using h)
mutual
theorem pathsT_at : ∀ (k : Tr), ∀ p ∈ pathsT k, (atT k p).isSome = true
  | .mk a b c ks => by
    intro p hp
    rw [pathsT] at hp
    rcases List.mem_cons.1 hp with rfl | hp
    · rw [atT]; rfl
    · obtain ⟨j, x, q, rfl, hx, hq⟩ := pathsK_at ks 0 p hp
      rw [Nat.zero_add, atT_in hx]; exact hq
theorem pathsK_at : ∀ (ks : List Tr) (i : Nat), ∀ p ∈ pathsK ks i, ∃ (j : Nat) (x : Tr) (q : List Int), p = ((i + j : Nat) : Int) :: q ∧ ks[j]? = some x ∧ (atT x q).isSome = true
  | [], i => by intro p hp; simp [pathsK] at hp
  | k :: ks, i => by
    intro p hp
    rw [pathsK, List.mem_append, List.mem_map] at hp
    rcases hp with ⟨q, hq, rfl⟩ | hp
    · exact ⟨0, k, q, rfl, rfl, pathsT_at k q hq⟩
    · obtain ⟨j, x, q, rfl, hx, hq⟩ := pathsK_at ks (i + 1) p hp
      exact ⟨j + 1, x, q, by rw [show i + 1 + j = i + (j + 1) by omega], by simpa using hx, hq⟩
end
mutual
theorem pathsT_last : ∀ (k : Tr) (p : List Int), (pathsT k).getLast? = some p → atT k (p ++ [0]) = none
  | .mk a b c ks, p, h => by
    rw [pathsT, List.getLast?_cons] at h
    cases hq : (pathsK ks 0).getLast? with
    | none =>
      rw [hq] at h
      have hp : p = [] := by simpa using h.symm
      have he := List.getLast?_eq_none_iff.1 hq
      have hl := pathsK_length ks 0
      rw [he] at hl
      cases ks with
      | nil => subst hp; exact atT_bad (by simp)
      | cons x ks =>
        rw [sizeTs] at hl
        have h1 := sizeT_pos x
        have h2 := sizeTs_pos ks
        simp at hl
        omega
    | some q =>
      rw [hq] at h
      have hp : p = q := by simpa using h.symm
      subst hp
      obtain ⟨j, x, q', rfl, hx, hn⟩ := pathsK_last ks 0 p hq
      rw [Nat.zero_add, List.cons_append, atT_in hx]; exact hn
theorem pathsK_last : ∀ (ks : List Tr) (i : Nat) (p : List Int), (pathsK ks i).getLast? = some p → ∃ (j : Nat) (x : Tr) (q : List Int), p = ((i + j : Nat) : Int) :: q ∧ ks[j]? = some x ∧ atT x (q ++ [0]) = none
  | [], i, p, h => by simp [pathsK] at h
  | k :: ks, i, p, h => by
    rw [pathsK, List.getLast?_append] at h
    cases hq : (pathsK ks (i + 1)).getLast? with
    | some q =>
      rw [hq] at h
      have hp : p = q := by simpa using h.symm
      subst hp
      obtain ⟨j, x, q', rfl, hx, hn⟩ := pathsK_last ks (i + 1) p hq
      exact ⟨j + 1, x, q', by rw [show i + 1 + j = i + (j + 1) by omega], by simpa using hx, hn⟩
    | none =>
      rw [hq] at h
      simp only [Option.none_or, List.getLast?_map, Option.map_eq_some_iff] at h
      obtain ⟨q, h1, rfl⟩ := h
      exact ⟨0, k, q, rfl, rfl, pathsT_last k q h1⟩
end
theorem pathsT_first (k : Tr) : (pathsT k)[0]? = some [] := by
  obtain ⟨a, b, c, ks⟩ := k
  rw [pathsT]; rfl
theorem putT_self : ∀ (p : List Int) (k x : Tr), atT k p = some x → putT k p x = k
  | [], k, x, h => by rw [atT] at h; cases h; cases k; rfl
  | i :: p, .mk a b c ks, x, h => by
    obtain ⟨h0, h1, y, hy, hs⟩ := at_cons (by rw [h]; rfl)
    rw [atT_step ⟨h0, h1⟩ hy] at h
    rw [putT_step hy, putT_self p y x h]
    congr 1
    exact (List.ext_getElem? fun j => by rw [List.getElem?_set]; split <;> simp_all <;> omega)
theorem atT_put : ∀ (p : List Int) (k x : Tr), (atT k p).isSome = true → atT (putT k p x) p = some x
  | [], k, x, h => by cases k; rw [putT, atT]
  | i :: p, .mk a b c ks, x, h => by
    obtain ⟨h0, h1, y, hy, hs⟩ := at_cons h
    rw [putT_step hy, atT_step (x := putT y p x) ⟨h0, by simpa using h1⟩ (by rw [List.getElem?_set_self (by omega)])]
    exact atT_put p y x hs
theorem free_let (n : ByteArray) (l : List ByteArray) (o k : Tr) (ho : freeT o = []) (h : freeT k = n :: l) : freeT (.mk 11 0 n [o, k]) = l := by
  have hn := freeT_nodup k
  rw [h, List.nodup_cons] at hn
  have e : bindsB 11 = true := rfl
  have hw : withoutL (n :: l) n = l := by
    rw [withoutL, List.filter_cons_of_neg (by simp)]
    exact List.filter_eq_self.2 fun x hx => by simp; rintro rfl; exact hn.1 hx
  have h0 : withoutI true 0 [] n = [] := by simp [withoutI]
  have h1 : withoutI true (0 + 1) (n :: l) n = withoutL (n :: l) n := by rw [withoutI, if_pos ⟨rfl, rfl⟩]
  rw [freeT, if_neg (by omega), e, freeK, freeK, freeK, ho, h, h0, h1, hw, joinL_nil]
  have := joinL_self l [] (by simpa using hn.2)
  simpa using this
theorem locE_nil (k : Tr) : locE k [] = [] := List.length_eq_zero_iff.1 (by have := locE_length k []; simpa using this)
mutual
theorem validS_up : ∀ (k : Tr) (d e : Int), 0 ≤ d → d ≤ e → validS k d = true → validS k e = true
  | .mk a b c ks, d, e, h0, he, h => by
    obtain ⟨h1, h2, h3⟩ := validS_inv h
    rw [validS] at h ⊢
    split at h
    · cases h
    · rename_i q
      rw [if_neg (by
        rintro (r | r)
        · omega
        · exact q (.inr r))]
      exact validSs_up ks (d - 1) (e - 1) (by omega) (by omega) h3
theorem validSs_up : ∀ (ks : List Tr) (d e : Int), 0 ≤ d → d ≤ e → validSs ks d = true → validSs ks e = true
  | [], d, e, h0, he, h => by rw [validSs]
  | k :: ks, d, e, h0, he, h => by
    rw [validSs, Bool.and_eq_true] at h ⊢
    exact ⟨validS_up k d e h0 he h.1, validSs_up ks d e h0 he h.2⟩
end
theorem validS_at : ∀ (p : List Int) (k x : Tr) (d : Int), 0 ≤ d → validS k d = true → atT k p = some x → validS x d = true
  | [], k, x, d, h0, h, hx => by rw [atT] at hx; cases hx; exact h
  | i :: p, .mk a b c ks, x, d, h0, h, hx => by
    obtain ⟨i0, i1, y, hy, hs⟩ := at_cons (by rw [hx]; rfl)
    rw [atT_step ⟨i0, i1⟩ hy] at hx
    obtain ⟨h1, h2, h3⟩ := validS_inv h
    exact validS_up x (d - 1) d (by omega) (by omega) (validS_at p y x (d - 1) (by omega) (validSs_get h3 hy) hx)
theorem okE_at {k x : Tr} {p : List Int} (h : okE k = true) (hx : atT k p = some x) : okE x = true := by
  rw [okE, Bool.and_eq_true, decide_eq_true_eq] at h ⊢
  have := atT_size p k x hx
  exact ⟨validS_at p k x 9 (by omega) h.1 hx, by omega⟩
def tok (us : List ByteArray) (s : ByteArray) : Int × Option ByteArray := if lastL us s us.length < 0 then (-1, some s) else (lastL us s us.length, none)
theorem lastL_at (l : List ByteArray) (s : ByteArray) : ∀ i : Nat, i ≤ l.length → 0 ≤ lastL l s i → l[(lastL l s i).toNat]? = some s
  | 0, _, h => by rw [lastL] at h; omega
  | i + 1, hi, h => by
    rw [lastL] at h ⊢
    split
    · rename_i hh; simpa using hh
    · rename_i hh; rw [if_neg hh] at h; exact lastL_at l s i (by omega) h
theorem tok_inj {us : List ByteArray} {a b : ByteArray} (h : tok us a = tok us b) : a = b := by
  unfold tok at h
  split at h <;> split at h
  · simpa using h
  · simp at h
  · simp at h
  · rename_i h1 h2
    simp only [Prod.mk.injEq, and_true] at h
    have e1 := lastL_at us a us.length (Nat.le_refl _) (by omega)
    have e2 := lastL_at us b us.length (Nat.le_refl _) (by omega)
    rw [h, e2] at e1
    simpa using e1.symm
theorem lastL_app (us : List ByteArray) (t x : ByteArray) : ∀ i : Nat, i ≤ us.length → lastL (us ++ [t]) x i = lastL us x i
  | 0, _ => rfl
  | i + 1, h => by rw [lastL, lastL, lastL_app us t x i (by omega), List.getElem?_append_left (by omega)]
theorem tok_app (us : List ByteArray) (t x : ByteArray) : tok (us ++ [t]) x = if x = t then ((us.length : Int), none) else tok us x := by
  have e : lastL (us ++ [t]) x (us ++ [t]).length = if x = t then (us.length : Int) else lastL us x us.length := by
    rw [List.length_append, List.length_singleton, lastL, lastL_app us t x _ (Nat.le_refl _)]
    by_cases hx : x = t
    · subst hx; simp
    · rw [if_neg hx, if_neg]; simp; exact fun h => hx h.symm
  unfold tok
  rw [e]
  by_cases hx : x = t
  · simp [hx]
  · simp [hx]
theorem tok_less {us : List ByteArray} {x : ByteArray} : tok us x ≠ ((us.length : Int), none) := by
  have := lastL_le us x us.length
  unfold tok
  split
  · simp
  · intro h; simp at h; omega
theorem mem_tok {us vs : List ByteArray} {a a' : List ByteArray} {n n' : ByteArray} (h : a.map (tok us) = a'.map (tok vs)) (hn : tok us n = tok vs n') : memB a n = memB a' n' := by
  rw [Bool.eq_iff_iff, memB_iff, memB_iff]
  constructor
  · intro hm
    have := List.mem_map_of_mem (f := tok us) hm
    rw [h, hn, List.mem_map] at this
    obtain ⟨x, hx, he⟩ := this
    exact tok_inj he ▸ hx
  · intro hm
    have := List.mem_map_of_mem (f := tok vs) hm
    rw [← h, ← hn, List.mem_map] at this
    obtain ⟨x, hx, he⟩ := this
    exact tok_inj he ▸ hx
theorem join_tok {us vs : List ByteArray} : ∀ (b b' a a' : List ByteArray), a.map (tok us) = a'.map (tok vs) → b.map (tok us) = b'.map (tok vs) → (joinL a b).map (tok us) = (joinL a' b').map (tok vs)
  | [], [], a, a', h, _ => by simpa [joinL] using h
  | [], _ :: _, a, a', h, hb => by simp at hb
  | _ :: _, [], a, a', h, hb => by simp at hb
  | n :: b, n' :: b', a, a', h, hb => by
    simp only [List.map_cons, List.cons.injEq] at hb
    rw [joinL, joinL, mem_tok h hb.1]
    refine join_tok b b' _ _ ?_ hb.2
    split
    · exact h
    · simp [h, hb.1]
theorem without_tok {us vs : List ByteArray} {t t' : ByteArray} (hl : us.length = vs.length) : ∀ (b b' : List ByteArray), b.map (tok (us ++ [t])) = b'.map (tok (vs ++ [t'])) → (withoutL b t).map (tok us) = (withoutL b' t').map (tok vs)
  | [], [], _ => rfl
  | [], _ :: _, h => by simp at h
  | _ :: _, [], h => by simp at h
  | n :: b, n' :: b', h => by
    simp only [List.map_cons, List.cons.injEq] at h
    have ih := without_tok hl b b' h.2
    have h1 := h.1
    rw [tok_app, tok_app] at h1
    unfold withoutL at ih ⊢
    by_cases c : n = t <;> by_cases c' : n' = t'
    · rw [List.filter_cons_of_neg (by simpa using c), List.filter_cons_of_neg (by simpa using c')]; exact ih
    · rw [if_pos c, if_neg c', hl] at h1; exact absurd h1.symm tok_less
    · rw [if_neg c, if_pos c', ← hl] at h1; exact absurd h1 tok_less
    · rw [if_neg c, if_neg c'] at h1
      rw [List.filter_cons_of_pos (by simpa using c), List.filter_cons_of_pos (by simpa using c'), List.map_cons, List.map_cons, h1, ih]
theorem likeT_inv {k n k' n' : Int} {t t' : ByteArray} {ks ks' : List Tr} {us vs : List ByteArray} (h : likeT (.mk k n t ks) (.mk k' n' t' ks') us vs = true) : k = k' ∧ n = n' ∧ ks.length = ks'.length ∧
    ((k = 3 ∧ lastL us t us.length = lastL vs t' vs.length ∧ (0 ≤ lastL us t us.length ∨ t = t')) ∨ (k ≠ 3 ∧ (k = 11 ∨ k = 12) ∧ likeK ks ks' us vs (us ++ [t]) (vs ++ [t']) 0 = true) ∨ (k ≠ 3 ∧ ¬ (k = 11 ∨ k = 12) ∧ t = t' ∧ likeK ks ks' us vs us vs 0 = true)) := by
  rw [likeT] at h
  split at h
  · cases h
  · rename_i hh
    have h1 : k = k' ∧ n = n' ∧ ks.length = ks'.length := by omega
    refine ⟨h1.1, h1.2.1, h1.2.2, ?_⟩
    split at h
    · rename_i h3; simp only [Bool.and_eq_true, Bool.or_eq_true, decide_eq_true_eq] at h; exact .inl ⟨h3, h.1, h.2⟩
    · rename_i h3
      split at h
      · rename_i h4; exact .inr (.inl ⟨h3, h4, h⟩)
      · rename_i h4; simp only [Bool.and_eq_true, decide_eq_true_eq] at h; exact .inr (.inr ⟨h3, h4, h.1, h.2⟩)
theorem likeT_of {k n : Int} {t t' : ByteArray} {ks ks' : List Tr} {us vs : List ByteArray} (hl : ks.length = ks'.length)
    (h : (k = 3 ∧ lastL us t us.length = lastL vs t' vs.length ∧ (0 ≤ lastL us t us.length ∨ t = t')) ∨ (k ≠ 3 ∧ (k = 11 ∨ k = 12) ∧ likeK ks ks' us vs (us ++ [t]) (vs ++ [t']) 0 = true) ∨ (k ≠ 3 ∧ ¬ (k = 11 ∨ k = 12) ∧ t = t' ∧ likeK ks ks' us vs us vs 0 = true)) : likeT (.mk k n t ks) (.mk k n t' ks') us vs = true := by
  rw [likeT, if_neg (by omega)]
  rcases h with ⟨h3, h4, h5⟩ | ⟨h3, h4, h5⟩ | ⟨h3, h4, h5, h6⟩
  · rw [if_pos h3]; simp only [Bool.and_eq_true, Bool.or_eq_true, decide_eq_true_eq]; exact ⟨h4, h5⟩
  · rw [if_neg h3, if_pos h4]; exact h5
  · rw [if_neg h3, if_neg h4]; simp only [Bool.and_eq_true, decide_eq_true_eq]; exact ⟨h5, h6⟩
mutual
theorem like_symm : ∀ (k k' : Tr) (us vs : List ByteArray), likeT k k' us vs = true → likeT k' k vs us = true
  | .mk k n t ks, .mk k' n' t' ks', us, vs, h => by
    obtain ⟨rfl, rfl, hl, hc⟩ := likeT_inv h
    refine likeT_of hl.symm ?_
    rcases hc with ⟨h3, h4, h5⟩ | ⟨h3, h4, h5⟩ | ⟨h3, h4, h5, h6⟩
    · exact .inl ⟨h3, h4.symm, by rcases h5 with h5 | h5; exact .inl (by omega); exact .inr h5.symm⟩
    · exact .inr (.inl ⟨h3, h4, like_symmK ks ks' us vs _ _ 0 h5⟩)
    · exact .inr (.inr ⟨h3, h4, h5.symm, like_symmK ks ks' us vs _ _ 0 h6⟩)
theorem like_symmK : ∀ (ks ks' : List Tr) (us vs us2 vs2 : List ByteArray) (i : Nat), likeK ks ks' us vs us2 vs2 i = true → likeK ks' ks vs us vs2 us2 i = true
  | [], [], us, vs, us2, vs2, i, h => by rw [likeK]
  | [], _ :: _, us, vs, us2, vs2, i, h => by simp [likeK] at h
  | _ :: _, [], us, vs, us2, vs2, i, h => by simp [likeK] at h
  | k :: ks, k' :: ks', us, vs, us2, vs2, i, h => by
    rw [likeK, Bool.and_eq_true] at h ⊢
    exact ⟨like_symm k k' _ _ h.1, like_symmK ks ks' us vs us2 vs2 (i + 1) h.2⟩
end
mutual
theorem like_size : ∀ (k k' : Tr) (us vs : List ByteArray) (d : Int), validS k d = true → validS k' d = true → likeT k k' us vs = true → sizeT k = sizeT k'
  | .mk k n t ks, .mk k' n' t' ks', us, vs, d, hv, hv', h => by
    obtain ⟨rfl, rfl, hl, hc⟩ := likeT_inv h
    have v1 := (validS_inv hv).2.2
    have v2 := (validS_inv hv').2.2
    rw [sizeT, sizeT]
    rcases hc with ⟨rfl, h4, h5⟩ | ⟨h3, h4, h5⟩ | ⟨h3, h4, h5, h6⟩
    · rw [name_kids hv, name_kids hv']
    · rw [like_sizeK ks ks' _ _ _ _ 0 _ v1 v2 h5]
    · rw [like_sizeK ks ks' _ _ _ _ 0 _ v1 v2 h6]
theorem like_sizeK : ∀ (ks ks' : List Tr) (us vs us2 vs2 : List ByteArray) (i : Nat) (d : Int), validSs ks d = true → validSs ks' d = true → likeK ks ks' us vs us2 vs2 i = true → sizeTs ks = sizeTs ks'
  | [], [], us, vs, us2, vs2, i, d, _, _, h => rfl
  | [], _ :: _, us, vs, us2, vs2, i, d, _, _, h => by simp [likeK] at h
  | _ :: _, [], us, vs, us2, vs2, i, d, _, _, h => by simp [likeK] at h
  | k :: ks, k' :: ks', us, vs, us2, vs2, i, d, hv, hv', h => by
    rw [likeK, Bool.and_eq_true] at h
    rw [validSs, Bool.and_eq_true] at hv hv'
    rw [sizeTs, sizeTs, like_size k k' _ _ d hv.1 hv'.1 h.1, like_sizeK ks ks' us vs us2 vs2 (i + 1) d hv.2 hv'.2 h.2]
end
mutual
theorem like_free : ∀ (k k' : Tr) (us vs : List ByteArray), us.length = vs.length → likeT k k' us vs = true → (freeT k).map (tok us) = (freeT k').map (tok vs)
  | .mk k n t ks, .mk k' n' t' ks', us, vs, hu, h => by
    obtain ⟨rfl, rfl, hl, hc⟩ := likeT_inv h
    rw [freeT, freeT]
    rcases hc with ⟨h3, h4, h5⟩ | ⟨h3, h4, h5⟩ | ⟨h3, h4, h5, h6⟩
    · rw [if_pos h3, if_pos h3]
      simp only [List.map_cons, List.map_nil, List.cons.injEq, and_true]
      unfold tok
      rw [← h4]
      split
      · rename_i hh; rcases h5 with h5 | rfl
        · omega
        · rfl
      · rfl
    · rw [if_neg h3, if_neg h3]
      have hb : bindsB k = true := by unfold bindsB; simpa using h4
      rw [hb]
      exact like_freeK ks ks' true t t' us vs _ _ 0 [] [] hu (by simp) (by simp) h5 rfl
    · rw [if_neg h3, if_neg h3]
      have hb : bindsB k = false := by unfold bindsB; simpa using h4
      rw [hb]
      exact like_freeK ks ks' false t t' us vs _ _ 0 [] [] hu (by simp) (by simp) h6 rfl
theorem like_freeK : ∀ (ks ks' : List Tr) (b : Bool) (t t' : ByteArray) (us vs us2 vs2 : List ByteArray) (i : Nat) (out out' : List ByteArray), us.length = vs.length → us2 = (if b = true then us ++ [t] else us) → vs2 = (if b = true then vs ++ [t'] else vs) → likeK ks ks' us vs us2 vs2 i = true → out.map (tok us) = out'.map (tok vs) → (freeK ks b t i out).map (tok us) = (freeK ks' b t' i out').map (tok vs)
  | [], [], b, t, t', us, vs, us2, vs2, i, out, out', hu, e1, e2, h, ho => by rw [freeK, freeK]; exact ho
  | [], _ :: _, b, t, t', us, vs, us2, vs2, i, out, out', hu, e1, e2, h, ho => by simp [likeK] at h
  | _ :: _, [], b, t, t', us, vs, us2, vs2, i, out, out', hu, e1, e2, h, ho => by simp [likeK] at h
  | k :: ks, k' :: ks', b, t, t', us, vs, us2, vs2, i, out, out', hu, e1, e2, h, ho => by
    rw [likeK, Bool.and_eq_true] at h
    rw [freeK, freeK]
    refine like_freeK ks ks' b t t' us vs us2 vs2 (i + 1) _ _ hu e1 e2 h.2 (join_tok _ _ _ _ ho ?_)
    subst e1
    subst e2
    unfold withoutI
    by_cases hb : b = true ∧ i = 1
    · obtain ⟨rfl, rfl⟩ := hb
      have h1 := h.1
      simp only [if_true] at h1
      rw [if_pos ⟨rfl, rfl⟩, if_pos ⟨rfl, rfl⟩]
      exact without_tok hu _ _ (like_free k k' _ _ (by simp [hu]) h1)
    · rw [if_neg hb, if_neg hb]
      refine like_free k k' us vs hu ?_
      have h1 := h.1
      by_cases hi : i = 1
      · have hb' : ¬ b = true := fun q => hb ⟨q, hi⟩
        rw [if_neg hb', if_neg hb'] at h1
        simpa using h1
      · rw [if_neg hi, if_neg hi] at h1; exact h1
end
theorem tok_nil : tok [] = fun s => (-1, some s) := by funext s; rfl
theorem like_free0 {k k' : Tr} (h : likeT k k' [] [] = true) : freeT k = freeT k' := by
  have := like_free k k' [] [] rfl h
  rw [tok_nil] at this
  exact (List.map_inj_right (fun a b hab => by simpa using hab)).1 this
end Go.Proofs.YteieleejhbljfaaGreat
