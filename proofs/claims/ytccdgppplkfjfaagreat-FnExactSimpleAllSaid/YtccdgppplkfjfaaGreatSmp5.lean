/- Simpler expressions stay valid, and become smaller. -/
import Derived.Test.YtccdgppplkfjfaaGreatSmp4
namespace Go.Proofs.YtccdgppplkfjfaaGreat
open Go Go.Ax Go.Proofs
set_option linter.unusedVariables false
set_option linter.unusedSimpArgs false
set_option maxRecDepth 20000
def okStep (k : Tr) (d : Int) (x : Tr × Int) : Prop := validS x.1 d = true ∧ (x.2 ≠ 0 → sizeT x.1 < sizeT k)
theorem okStep.part {k x : Tr} {d e r : Int} (h : validS x e = true) (h0 : 0 ≤ e) (he : e ≤ d) (hs : sizeT x < sizeT k) : okStep k d (x, r) := ⟨validS_up x e d h0 he h, fun _ => hs⟩
theorem okStep.self {k : Tr} {d : Int} (hv : validS k d = true) : okStep k d (k, 0) := ⟨hv, fun h => absurd rfl h⟩
theorem leafV1 {n d : Int} (hd : d ≠ 0) (h : n = 0 ∨ n = 1) : validS (.mk 1 n ⟨#[]⟩ []) d = true := by
  rw [validS, if_neg, validSs]
  rcases h with rfl | rfl <;> simp [hd, inR, textV, mostV, lowV, highV]
theorem leafV0 {n d : Int} (hd : d ≠ 0) (h : 0 ≤ n) (h2 : n ≤ 9999) : validS (.mk 0 n ⟨#[]⟩ []) d = true := by
  rw [validS, if_neg, validSs]
  simp [hd, inR, textV, mostV, lowV, highV, h, h2]
theorem leafV2 {t : ByteArray} {d : Int} (hd : d ≠ 0) (h : isWordL t.data.toList = true) : validS (.mk 2 0 t []) d = true := by
  rw [validS, if_neg, validSs]
  simp [hd, inR, textV, mostV, lowV, highV, h]
theorem size_leaf (a b : Int) (t : ByteArray) : sizeT (.mk a b t []) = 1 := by rw [sizeT, sizeTs]; omega
theorem short_word {s t : ByteArray} (hs : isWordL s.data.toList = true) (ht : isWordL t.data.toList = true) : isWordL (shortB (s ++ t)).data.toList = true := by
  have e : (shortB (s ++ t)).data.toList = ((s.data.toList ++ t.data.toList).take (min (s ++ t).size 20)) := by
    unfold shortB
    simp [ByteArray.data_extract, List.take_append]
  rw [e]
  simp only [isWordL, Bool.and_eq_true, List.all_eq_true, decide_eq_true_eq] at hs ht ⊢
  refine ⟨fun c hc => ?_, by rw [List.length_take]; omega⟩
  rcases List.mem_append.1 (List.mem_of_mem_take hc) with q | q
  · exact hs.1 c q
  · exact ht.1 c q
theorem mod_rng {n : Int} (h : 0 ≤ n) : 0 ≤ n.tmod 10000 ∧ n.tmod 10000 ≤ 9999 := by rw [Int.tmod_eq_emod_of_nonneg h]; omega
theorem lit_valid {op : ByteArray} {k a b : Int} {s t : ByteArray} {d : Int} (hd : d ≠ 0) (hk : knownB op k = true) (hk0 : 0 ≤ k) (hk2 : k ≤ 2) (ha : 0 ≤ a ∧ a ≤ 9999) (hb : 0 ≤ b ∧ b ≤ 9999) (hw : k = 2 → isWordL s.data.toList = true ∧ isWordL t.data.toList = true) : validS (litT op k a b s t) d = true := by
  have hab : 0 ≤ a * b := Int.mul_nonneg ha.1 hb.1
  have one : ∀ p : Prop, [Decidable p] → ((if p then (1 : Int) else 0) = 0 ∨ (if p then (1 : Int) else 0) = 1) := fun p _ => by split <;> simp
  unfold litT litK litN litS
  by_cases h1 : op = oPlus
  · by_cases h2 : k = 2
    · simp only [h1, h2, if_true, and_self]
      exact leafV2 hd (short_word (hw h2).1 (hw h2).2)
    · simp only [h1, h2, if_true, if_false, and_false]
      exact leafV0 hd (mod_rng (by omega)).1 (mod_rng (by omega)).2
  · simp only [if_neg h1, h1, false_and, if_false]
    by_cases h3 : op = oMinus
    · simp only [h3, true_or, if_true]
      exact leafV0 hd (mod_rng (by omega)).1 (mod_rng (by omega)).2
    · by_cases h4 : op = oTimes
      · have h3' : ¬ (oTimes = oMinus) := by decide
        simp only [h4, h3', or_true, if_true, if_false]
        exact leafV0 hd (mod_rng hab).1 (mod_rng hab).2
      · simp only [h3, h4, or_self, if_false]
        split
        · exact leafV1 hd (one _)
        · exact leafV1 hd (one _)
theorem bin_step {op : ByteArray} {a b e : Tr} {d : Int} (hd : 0 ≤ d) (hd0 : d ≠ 0) (ha : a.bnd 1000000) (hb : b.bnd 1000000) (hva : validS a (d - 1) = true) (hvb : validS b (d - 1) = true) (he : validS e d = true) (hs : sizeT e = 1 + sizeT a + sizeT b) : okStep e d (binT op a b e) := by
  have p1 := sizeT_pos a
  have p2 := sizeT_pos b
  unfold binT
  split
  · rename_i h8
    obtain ⟨ak, an, az, aks⟩ := a
    obtain ⟨bk, bv, bs, bks⟩ := b
    have oa := okLit_of hva ha
    have ob := okLit_of hvb hb
    have h8' : (ak = bk ∧ ak ≤ 2) ∧ knownB op ak = true := by simpa [inR8] using h8
    obtain ⟨⟨rfl, h82⟩, hkn⟩ := h8'
    have ta := (validS_inv2 hva).2.1
    have tb := (validS_inv2 hvb).2.1
    refine ⟨lit_valid hd0 hkn oa.2.2.2.2.2.2 h82 ⟨oa.2.2.2.1, oa.2.2.2.2.1⟩ ⟨ob.2.2.2.1, ob.2.2.2.2.1⟩ (fun e => ?_), fun _ => ?_⟩
    · subst e; exact ⟨by simpa [textV] using ta, by simpa [textV] using tb⟩
    · show sizeT (litT _ _ _ _ _ _) < _
      rw [litT, size_leaf]; omega
  · split
    · exact .part hva (by omega) (by omega) (by omega)
    · split
      · exact .part hvb (by omega) (by omega) (by omega)
      · split
        · exact .part hva (by omega) (by omega) (by omega)
        · split
          · exact .part hvb (by omega) (by omega) (by omega)
          · exact .self he
theorem simpler_step {k : Tr} {d : Int} (hd : 0 ≤ d) (hk : k.bnd 1000000) (hv : validS k d = true) : okStep k d (simplerT k) := by
  obtain ⟨kd, nm, t, ks⟩ := k
  obtain ⟨v1, v2, v3⟩ := validS_inv hv
  obtain ⟨b1, b2, b3⟩ := hk
  by_cases c8 : kd = 8
  · subst c8
    obtain ⟨ck, cn, ct, cks, rfl⟩ := kids1 hv (.inl rfl)
    have hc := validSs_get (i := 0) v3 rfl
    have ho := okLit_of hc (Tr.bnds_get (i := 0) b3 rfl)
    have hs := size1 8 nm t (.mk ck cn ct cks)
    have hp := sizeT_pos (.mk ck cn ct cks)
    rw [sT8, simNot]
    split
    · rename_i d1
      subst d1
      obtain ⟨xk, xn, xt, xks, rfl⟩ := kids1 hc (.inl rfl)
      have hs2 := size1 8 cn ct (.mk xk xn xt xks)
      have hx := validSs_get (i := 0) (validS_inv hc).2.2 rfl
      have := (validS_inv hc).1
      show okStep _ d (Tr.mk xk xn xt xks, 1)
      exact .part hx (by omega) (by omega) (by omega)
    · split
      · rename_i d2
        subst d2
        exact ⟨leafV1 v1 (by rcases (ho.2.1 rfl).1 with rfl | rfl <;> simp), fun _ => by show sizeT (.mk 1 _ _ []) < _; rw [size_leaf]; omega⟩
      · exact .self hv
  by_cases c10 : kd = 10
  · subst c10
    obtain ⟨ck, cn, ct, cks, xk, xn, xt, xks, yk, yn, yt, yks, rfl⟩ := kids3 hv rfl
    have hc := validSs_get (i := 0) v3 rfl
    have hx := validSs_get (i := 1) v3 rfl
    have hy := validSs_get (i := 2) v3 rfl
    have hs := size3 10 nm t (.mk ck cn ct cks) (.mk xk xn xt xks) (.mk yk yn yt yks)
    have p1 := sizeT_pos (.mk ck cn ct cks)
    have p2 := sizeT_pos (.mk xk xn xt xks)
    have p3 := sizeT_pos (.mk yk yn yt yks)
    rw [sT10, simIf]
    split
    · exact .part hx (by omega) (by omega) (by omega)
    · split
      · exact .part hy (by omega) (by omega) (by omega)
      · split
        · exact .part hc (by omega) (by omega) (by omega)
        · split
          · exact .part hx (by omega) (by omega) (by omega)
          · split
            · rename_i d1
              have d1' : ck = 8 := d1
              subst d1'
              obtain ⟨zk, zn, zt, zks, rfl⟩ := kids1 hc (.inl rfl)
              have hs2 := size1 8 cn ct (.mk zk zn zt zks)
              have hz := validSs_get (i := 0) (validS_inv hc).2.2 rfl
              have h0 := (validS_inv hc).1
              have hz' := validS_up _ (d - 1 - 1) (d - 1) (by omega) (by omega) hz
              have hs3 := size3 10 0 ⟨#[]⟩ (.mk zk zn zt zks) (.mk yk yn yt yks) (.mk xk xn xt xks)
              refine ⟨?_, fun _ => ?_⟩
              · show validS (.mk 10 0 ⟨#[]⟩ [.mk zk zn zt zks, .mk yk yn yt yks, .mk xk xn xt xks]) d = true
                rw [validS, if_neg (by simp [v1, inR, textV, mostV, lowV, highV])]
                simp only [validSs, hz', hx, hy, Bool.and_self]
              · show sizeT (.mk 10 0 ⟨#[]⟩ [.mk zk zn zt zks, .mk yk yn yt yks, .mk xk xn xt xks]) < _
                omega
            · exact .self hv
  by_cases c9 : kd = 9
  · subst c9
    obtain ⟨ak, an, az, aks, bk, bv, bs, bks, rfl⟩ := kids2 hv (.inl rfl)
    rw [sT9, simBin]
    exact bin_step hd v1 (Tr.bnds_get (i := 0) b3 rfl) (Tr.bnds_get (i := 1) b3 rfl) (validSs_get (i := 0) v3 rfl) (validSs_get (i := 1) v3 rfl) hv (size2 _ _ _ _ _)
  by_cases c11 : kd = 11
  · subst c11
    obtain ⟨ck, cn, ct, cks, xk, xn, xt, xks, rfl⟩ := kids2 hv (.inr (.inl rfl))
    have hs := size2 11 nm t (.mk ck cn ct cks) (.mk xk xn xt xks)
    have p1 := sizeT_pos (.mk ck cn ct cks)
    have p2 := sizeT_pos (.mk xk xn xt xks)
    have hc := validSs_get (i := 0) v3 rfl
    have hx := validSs_get (i := 1) v3 rfl
    rw [sT11, simLet]
    split
    · exact .part hc (by omega) (by omega) (by omega)
    · split
      · exact .part hx (by omega) (by omega) (by omega)
      · exact .self hv
  by_cases c12 : kd = 12
  · subst c12
    obtain ⟨ck, cn, ct, cks, xk, xn, xt, xks, rfl⟩ := kids2 hv (.inr (.inr rfl))
    have hs := size2 12 nm t (.mk ck cn ct cks) (.mk xk xn xt xks)
    have p1 := sizeT_pos (.mk ck cn ct cks)
    have p2 := sizeT_pos (.mk xk xn xt xks)
    have hc := validSs_get (i := 0) v3 rfl
    rw [sT12, simFor]
    split
    · exact .part hc (by omega) (by omega) (by omega)
    · exact .self hv
  by_cases c13 : kd = 13
  · subst c13
    obtain ⟨ck, cn, ct, cks, rfl⟩ := kids1 hv (.inr rfl)
    have hc := validSs_get (i := 0) v3 rfl
    have hs := size1 13 nm t (.mk ck cn ct cks)
    have p1 := sizeT_pos (.mk ck cn ct cks)
    rw [sT13, simSize]
    split
    · rename_i h
      have h7 : ck = 7 := h.1
      subst h7
      have hl := (validS_inv hc).2.1
      have hl2 : cks.length ≤ 4 := by simp [inR, lowV, highV] at hl; omega
      exact ⟨leafV0 v1 (by omega) (by show ((cks.length : Nat) : Int) ≤ 9999; omega), fun _ => by show sizeT (.mk 0 _ _ []) < _; rw [size_leaf]; omega⟩
    · exact .self hv
  rw [sT0 c8 c10 c9 c11 c12 c13]
  exact .self hv
mutual
def allF : Nat → Tr → Tr × Int
  | 0, k => (k, 0)
  | f + 1, .mk kd nm t ks => if (simplerT (.mk kd nm t (allK f ks).1)).2 = 0 then (.mk kd nm t (allK f ks).1, (allK f ks).2) else ((allF f (simplerT (.mk kd nm t (allK f ks).1)).1).1, (allK f ks).2 + 1 + (allF f (simplerT (.mk kd nm t (allK f ks).1)).1).2)
def allK : Nat → List Tr → List Tr × Int
  | _, [] => ([], 0)
  | f, k :: ks => ((allF f k).1 :: (allK f ks).1, (allF f k).2 + (allK f ks).2)
end
end Go.Proofs.YtccdgppplkfjfaaGreat
