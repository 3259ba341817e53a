/- The law on values renamed back. -/
import Derived.Test.YtnmodhbchfkfbaaVal
import Derived.Test.YtnmodhbchfkfbaaRen
import Derived.Test.YtnmodhbchfkfbaaVsame
import Derived.Test.YtnmodhbchfkfbaaTy
namespace Go.Proofs.Ytnmodhbchfkfbaa
open Go Go.Ax Go.Proofs
set_option linter.unusedVariables false
set_option linter.unusedSimpArgs false
set_option maxRecDepth 20000
mutual
theorem sameT_eq : ∀ a b : Tr, sameT a b = true → a = b
  | .mk k n t ks, .mk k' n' t' ks', h => by
    simp only [sameT, Bool.and_eq_true, decide_eq_true_eq] at h
    obtain ⟨h1, h2, h3, h4⟩ := h
    rw [h1, h2, h3, sameTs_eq ks ks' h4]
theorem sameTs_eq : ∀ a b : List Tr, sameTs a b = true → a = b
  | [], [], _ => rfl
  | k :: ks, k' :: ks', h => by
    simp only [sameTs, Bool.and_eq_true] at h
    rw [sameT_eq k k' h.1, sameTs_eq ks ks' h.2]
  | [], _ :: _, h => by simp [sameTs] at h
  | _ :: _, [], h => by simp [sameTs] at h
end
mutual
theorem ren_back {old name zz : ByteArray} (hz : name ≠ zz) : ∀ v : Tr, renT name zz v = v → renT name old (renT old name v) = v
  | .mk k n t ks, h => by
    simp only [renT, Tr.mk.injEq, true_and] at h ⊢
    refine ⟨?_, rens_back hz ks h.2⟩
    have h1 := h.1
    by_cases a : k = 4 ∧ t = name
    · rw [if_pos a] at h1
      exact absurd (a.2.symm.trans h1.symm) hz
    · by_cases c : k = 4 ∧ t = old
      · rw [if_pos c, if_pos ⟨c.1, rfl⟩]; exact c.2.symm
      · rw [if_neg c, if_neg a]
theorem rens_back {old name zz : ByteArray} (hz : name ≠ zz) : ∀ l : List Tr, renK name zz l = l → renK name old (renK old name l) = l
  | [], _ => rfl
  | k :: l, h => by
    simp only [renK, List.cons.injEq] at h ⊢
    exact ⟨ren_back hz k h.1, rens_back hz l h.2⟩
end
theorem sSameValue_AF (k k' : Tr) (hk : k.bnd 1000000) : Fn 19 [k.av, k'.av] (bool (sameT k k')) := by
  obtain ⟨kd, nm, t, ks⟩ := k
  obtain ⟨kd', nm', t', ks'⟩ := k'
  refine AF.intro Try.func19 nm19 rfl rfl rfl rfl fun w0 ok0 => ?_
  refine AWP.seq ?_
  refine AWP.region ?_
  refine AOps.box rfl rfl rfl rfl fun b1 => ?_
  refine AOps.box rfl rfl rfl rfl fun b2 => ?_
  refine Y (ass rfl) rfl ?_
  refine AOps.nil ?_
  refine AWP.seq ?_
  refine AWP.region ?_
  refine Y (Yields.load_ptr_agg (j := 1) kd30 rfl rfl rfl rfl) rfl ?_
  refine Y (Yields.load_ptr_agg (j := 0) kd30 rfl rfl rfl rfl) rfl ?_
  refine AOps.callro (ssame_AFValue (.mk kd nm t ks) (.mk kd' nm' t' ks') hk) rfl rfl rfl ?_
  refine Y (ass rfl) rfl ?_
  refine AOps.nil ?_
  refine AWP.ret ⟨.inl rfl, ?_⟩
  exact RetIs.oneV rfl rfl (by (rfl) <;> rfl)
def zz : ByteArray := ⟨#[122, 122]⟩
theorem anyP_zz {s : ByteArray} (h : anyP s) : s ≠ zz := by
  have : ∀ s ∈ anyL1 ++ anyL2, s ≠ zz := by decide
  exact this s h
theorem renMk (a b : ByteArray) (v : Tr) : ∃ k n t ks, renE a b v = .mk k n t ks := by
  generalize renE a b v = z
  obtain ⟨k, n, t, ks⟩ := z
  exact ⟨k, n, t, ks, rfl⟩
theorem renElim {G : Prop} (a b : ByteArray) (v : Tr) (h : ∀ k n t ks, renE a b v = .mk k n t ks → G) : G := by
  obtain ⟨k, n, t, ks, e⟩ := renMk a b v
  exact h k n t ks e
/-- A value and two names. -/
def drawnVR (d : Nat) : AV → Hp → Prop := fun r hp' => ∃ (v : Tr) (s t : ByteArray), v.bnd 1000000 ∧ sizeT v ≤ sizeV d ∧ anyP s ∧ anyP t ∧ r = .tup [v.av, str s, str t] ∧ hp' = []
theorem drawValueRenamed_AH (code : List UInt8) (hc : code.length ≤ 1048576) : FnH 16 [] [.ro 1 (bytesV code) [] false] (drawnVR 3) := by
  have hcv : costV 3 ≤ 10000 := by decide
  refine AH.intro Try.func16 nm16 rfl rfl rfl fun w0 ok0 own0 => ?_
  refine AWP.seq ?_
  refine AWP.region ?_
  refine AOps.alloc rfl z30 rfl rfl fun b2 => ?_
  refine Y (ass rfl) rfl ?_
  refine Y (ass rfl) rfl ?_
  refine AOps.nil ?_
  refine AWP.seq ?_
  refine AWP.region ?_
  refine Y (mv rfl) rfl ?_
  refine AOps.callH (.inl trivial) (from_AH code) rfl rfl rfl (WkL.refl _) ?_
  rintro _ _ ⟨b, rfl, rfl⟩
  refine Y (ass rfl) rfl ?_
  refine AOps.nil ?_
  refine AWP.seq ?_
  refine AWP.region ?_
  refine Y (mv rfl) rfl ?_
  refine AOps.callH (.inl trivial) (anyValue_AH 3 b code 0 (by omega) hc (by omega)) rfl rfl rfl (WkL.refl _) ?_
  rintro _ _ ⟨⟨vk, vn, vt, vks⟩, q1, w1, w2, w3, w4, rfl, rfl⟩
  refine AOps.alloc rfl z30 rfl rfl fun b6 => ?_
  refine AOps.store (j := 0) kd30 rfl rfl rfl rfl rfl rfl ?_
  refine AOps.nil ?_
  refine AWP.seq ?_
  refine AWP.prune (tm' := [(0, _), (2, _), (3, _), (4, _), (5, _), (6, _)]) ⟨rfl, rfl, rfl, rfl, rfl, rfl, trivial⟩ ?_
  refine AWP.drawnM [] [.pure 0, .pure 1, .pure 3, .spine 2 [] [1], .spine 4 [] [1, 2, 3], .spine 5 [] [0, 1, 2, 3, 4], .pure 6, .pure 7] mixed rfl rfl rfl rfl rfl ?_
  refine DM.pure (GX (tm' := [(6, _)]) rfl ⟨rfl, trivial⟩ rfl (DStep.yields (Yields.load_ptr_agg (j := 0) kd30 rfl rfl rfl rfl)) rfl) ?_
  refine DM.pure (GX (tm' := [(5, _)]) rfl ⟨rfl, trivial⟩ rfl (DStep.yields (mv rfl)) rfl) ?_
  refine DM.pure (GX (tm' := [(5, _)]) rfl ⟨rfl, trivial⟩ rfl (DStep.yields (mv rfl)) rfl) ?_
  refine DM.sp rfl rfl ?_
  refine DOpen.nil fun _ _ _ => ?_
  refine AOps.subT (tm' := [(12, _)]) ⟨rfl, trivial⟩ ?_
  refine AOps.leads (Leads.pull 1 rfl) ?_
  refine AOps.callH (.inl trivial) (anyNameP_AH b code q1 hc (by omega)) rfl rfl rfl (WkL.refl _) ?_
  rintro _ _ ⟨s, q2, j2, j3, j4, rfl, rfl⟩
  refine AOps.nil ?_
  refine SpK.mk rfl rfl ?_ ?_
  · skip
    refine Stab.skip rfl ?_
    refine Stab.keep (GX (tm' := [(5, _)]) rfl ⟨rfl, trivial⟩ rfl (DStep.yields (mv rfl)) rfl) ?_
    refine Stab.skip rfl ?_
    refine Stab.keep (GX (tm' := [(6, _)]) rfl ⟨rfl, trivial⟩ rfl (DStep.yields (Yields.load_ptr_agg (j := 1) kd30 rfl rfl rfl rfl)) rfl) ?_
    exact trivial
  refine DM.sp rfl rfl ?_
  refine DOpen.nil fun _ _ _ => ?_
  refine AOps.subT (tm' := [(14, _)]) ⟨rfl, trivial⟩ ?_
  refine AOps.callH (.inl trivial) (anyNameP_AH b code q2 hc (by omega)) rfl rfl rfl (WkL.refl _) ?_
  rintro _ _ ⟨t, q3, i2, i3, i4, rfl, rfl⟩
  refine AOps.nil ?_
  refine SpK.mk rfl rfl ?_ ?_
  · skip
    refine Stab.skip rfl ?_
    refine Stab.skip rfl ?_
    refine Stab.skip rfl ?_
    refine Stab.skip rfl ?_
    refine Stab.keep (GX (tm' := [(6, _)]) rfl ⟨rfl, trivial⟩ rfl (DStep.yields (Yields.load_ptr_agg (j := 1) kd30 rfl rfl rfl rfl)) rfl) ?_
    exact trivial
  refine DM.sp rfl rfl ?_
  refine DOpen.nil fun _ _ _ => ?_
  refine AOps.subT (tm' := [(2, _), (11, _)]) ⟨rfl, rfl, trivial⟩ ?_
  refine AOps.store (j := 2) kd30 rfl rfl rfl rfl rfl rfl ?_
  refine AOps.nil ?_
  refine SpK.mk0 (Stab.all rfl) ?_
  refine DM.pure (GX (tm' := [(13, _)]) rfl ⟨rfl, trivial⟩ rfl (DStep.yields (ass rfl)) rfl) ?_
  refine DM.pure (GX (tm' := [(15, _)]) rfl ⟨rfl, trivial⟩ rfl (DStep.yields (ass rfl)) rfl) ?_
  refine DM.nil ?_
  refine AWP.ret ⟨.inl rfl, ?_⟩
  exact RetH.of (rs := [.cell 2 30, .tmp 3, .tmp 4]) (vs := [_, _, _]) rfl ⟨resOne.cell (j := 2) rfl rfl kd30 rfl rfl rfl, rfl, rfl, trivial⟩ KeepR.nil (⟨.mk vk vn vt vks, s, t, w1, w2, j2, i2, rfl, rfl⟩)
theorem lawValueRenamed (code : List UInt8) : Fn 6 [.ro 1 (bytesV code) [] false] (bool true) := by
  have hl := bytesV_length code
  refine AF.intro Try.func6 nm6 rfl rfl rfl rfl fun w0 ok0 => ?_
  refine AWP.seq ?_
  refine AWP.region ?_
  refine Y (ass rfl) rfl ?_
  refine AOps.nil ?_
  refine AWP.seq ?_
  refine AWP.seq ?_
  refine AWP.region ?_
  refine Y (mv rfl) rfl ?_
  refine Y (Yields.len_ro sl22 rfl) rfl ?_
  refine Y (bn rfl rfl BinR.gtr rfl) rfl ?_
  refine AOps.nil ?_
  refine AWP.condT rfl (fun h => ?_) (fun h => ?_)
  · replace h := of_decide_eq_true h
    refine AWP.seq ?_
    refine AWP.region ?_
    refine Y (ass rfl) rfl ?_
    refine AOps.nil ?_
    refine AWP.ret ⟨.inl rfl, ?_⟩
    exact RetIs.oneV rfl rfl (by (rfl) <;> rfl)
  · replace h := of_decide_eq_false h
    refine AWP.skip ?_
    refine AWP.seq ?_
    refine AWP.region ?_
    refine Y (mv rfl) rfl ?_
    refine AOps.callH (.inr rfl) (drawValueRenamed_AH code (by omega)) rfl rfl rfl (WkL.refl _) ?_
    rintro _ _ ⟨⟨vk, vn, vt, vks⟩, old, name, w1, w2, p1, p2, rfl, rfl⟩
    have ho := anyP_size p1
    have hn := anyP_size p2
    have iF := iValueRenamed_AF old name (.mk vk vn vt vks) w1 (by omega)
    have sF := sValueRenamed_AF old name (.mk vk vn vt vks) w1 (by omega)
    have hE := (renE_facts old name (.mk vk vn vt vks) w1 (by omega)).1
    obtain ⟨o, hoe⟩ : ∃ o, renE old name (.mk vk vn vt vks) = o := ⟨_, rfl⟩
    rw [hoe] at iF sF hE
    obtain ⟨ok, on, ot, oks⟩ := o
    refine Y (mv rfl) rfl ?_
    refine Y (Yields.extract rfl rfl) rfl ?_
    refine Y (Yields.extract rfl rfl) rfl ?_
    refine Y (Yields.extract rfl rfl) rfl ?_
    refine AOps.alloc rfl z30 rfl rfl fun b1 => ?_
    refine AOps.store (j := 0) kd30 rfl rfl rfl rfl rfl rfl ?_
    refine Y (ass rfl) rfl ?_
    refine Y (ass rfl) rfl ?_
    refine AOps.nil ?_
    refine AWP.seq ?_
    refine AWP.region ?_
    refine Y (Yields.load_ptr_agg (j := 0) kd30 rfl rfl rfl rfl) rfl ?_
    refine Y (mv rfl) rfl ?_
    refine Y (mv rfl) rfl ?_
    refine AOps.callro (iF) rfl rfl rfl ?_
    refine Y (mv rfl) rfl ?_
    refine Y (Yields.extract rfl rfl) rfl ?_
    refine Y (Yields.extract rfl rfl) rfl ?_
    refine AOps.alloc rfl z30 rfl rfl fun b2 => ?_
    refine AOps.store (j := 0) kd30 rfl rfl rfl rfl rfl rfl ?_
    refine Y (ass rfl) rfl ?_
    refine AOps.nil ?_
    refine AWP.seq ?_
    refine AWP.region ?_
    refine Y (Yields.load_ptr_agg (j := 1) kd30 rfl rfl rfl rfl) rfl ?_
    refine Y (mv rfl) rfl ?_
    refine Y (mv rfl) rfl ?_
    refine AOps.callro (sF) rfl rfl rfl ?_
    refine Y (mv rfl) rfl ?_
    refine Y (Yields.extract rfl rfl) rfl ?_
    refine Y (Yields.extract rfl rfl) rfl ?_
    refine AOps.alloc rfl z30 rfl rfl fun b3 => ?_
    refine AOps.store (j := 0) kd30 rfl rfl rfl rfl rfl rfl ?_
    refine Y (ass rfl) rfl ?_
    refine AOps.nil ?_
    refine AWP.seq ?_
    refine AWP.region ?_
    refine Y (Yields.load_ptr_agg (j := 1) kd30 rfl rfl rfl rfl) rfl ?_
    refine Y (Yields.load_ptr_agg (j := 0) kd30 rfl rfl rfl rfl) rfl ?_
    refine AOps.callro (sSameValue_AF (.mk ok on ot oks) (.mk ok on ot oks) hE) rfl rfl rfl ?_
    refine Y (mv rfl) rfl ?_
    refine AOps.split 41 rfl (fun s1 => ?_) (fun s1 => ?_)
    · skip
      refine AOps.on rfl rfl ?_
      refine Y (mv rfl) rfl ?_
      refine AOps.on rfl rfl ?_
      refine Y (mv rfl) rfl ?_
      refine AOps.on rfl rfl ?_
      refine Y (bn rfl rfl (BinR.beql Try.underlying4) rfl) rfl ?_
      refine Y (Yields.pick_true rfl rfl) rfl ?_
      refine Y (ass rfl) rfl ?_
      refine AOps.nil ?_
      refine AWP.seq ?_
      refine AWP.seq ?_
      refine AWP.region ?_
      refine Y (mv rfl) rfl ?_
      refine Y (Yields.not rfl) rfl ?_
      refine Y (mv rfl) rfl ?_
      refine AOps.split 48 rfl (fun s2 => ?_) (fun s2 => ?_)
      · skip
        simp at s2
      · skip
        refine AOps.on rfl rfl ?_
        refine Y (mv rfl) rfl ?_
        refine AOps.on rfl rfl ?_
        refine Y (Yields.not rfl) rfl ?_
        refine Y (Yields.pick_false rfl rfl) rfl ?_
        refine AOps.nil ?_
        refine AWP.condT rfl (fun s3 => ?_) (fun s3 => ?_)
        · skip
          refine AWP.seq ?_
          refine AWP.region ?_
          refine Y (mv rfl) rfl ?_
          refine Y (ass rfl) rfl ?_
          refine AOps.nil ?_
          refine AWP.ret ⟨.inl rfl, ?_⟩
          exact RetIs.oneV rfl rfl (by (simp) <;> rfl)
        · skip
          have hb : renB name (.mk vk vn vt vks) = true := by simpa using s3
          have hv : validV (.mk vk vn vt vks) 6 = true ∧ isNameL name.data.toList = true := by simpa [renB] using hb
          have hoe2 : renT old name (.mk vk vn vt vks) = .mk ok on ot oks := by rw [← hoe, renE, if_pos hv]
          have bF := iValueRenamed_AF name old (.mk ok on ot oks) hE (by omega)
          have hB := (renE_facts name old (.mk ok on ot oks) hE (by omega)).1
          obtain ⟨r, hre⟩ : ∃ r, renE name old (.mk ok on ot oks) = r := ⟨_, rfl⟩
          rw [hre] at bF hB
          obtain ⟨rk, rn, rt, rks⟩ := r
          refine AWP.skip ?_
          refine AWP.seq ?_
          refine AWP.region ?_
          refine Y (Yields.load_ptr_agg (j := 1) kd30 rfl rfl rfl rfl) rfl ?_
          refine Y (mv rfl) rfl ?_
          refine Y (mv rfl) rfl ?_
          refine AOps.callro (bF) rfl rfl rfl ?_
          refine Y (mv rfl) rfl ?_
          refine Y (Yields.extract rfl rfl) rfl ?_
          refine Y (Yields.extract rfl rfl) rfl ?_
          refine AOps.alloc rfl z30 rfl rfl fun b4 => ?_
          refine AOps.store (j := 0) kd30 rfl rfl rfl rfl rfl rfl ?_
          refine Y (ass rfl) rfl ?_
          refine AOps.nil ?_
          refine AWP.seq ?_
          refine AWP.seq ?_
          refine AWP.region ?_
          refine Y (mv rfl) rfl ?_
          refine AOps.callro (iTypeOk_AF old (by omega)) rfl rfl rfl ?_
          refine Y (Yields.not rfl) rfl ?_
          refine Y (mv rfl) rfl ?_
          refine AOps.split 63 rfl (fun s4 => ?_) (fun s4 => ?_)
          · skip
            refine AOps.off' rfl rfl rfl rfl ?_
            refine AOps.off' rfl rfl rfl rfl ?_
            refine Y (Yields.pick_true rfl rfl) rfl ?_
            refine AOps.nil ?_
            refine AWP.cond rfl (fun _ => ?_) (fun h => absurd h (by decide))
            refine AWP.seq ?_
            refine AWP.region ?_
            refine Y (ass rfl) rfl ?_
            refine AOps.nil ?_
            refine AWP.ret ⟨.inl rfl, ?_⟩
            exact RetIs.oneV rfl rfl (by (rfl) <;> rfl)
          · skip
            refine AOps.on rfl rfl ?_
            refine Y (mv rfl) rfl ?_
            refine AOps.on rfl rfl ?_
            refine Y (Yields.not rfl) rfl ?_
            refine Y (Yields.pick_false rfl rfl) rfl ?_
            refine AOps.nil ?_
            refine AWP.condT rfl (fun s5 => ?_) (fun s5 => ?_)
            · skip
              refine AWP.seq ?_
              refine AWP.region ?_
              refine Y (ass rfl) rfl ?_
              refine AOps.nil ?_
              refine AWP.ret ⟨.inl rfl, ?_⟩
              exact RetIs.oneV rfl rfl (by (rfl) <;> rfl)
            · skip
              have zF := iValueRenamed_AF name zz (.mk vk vn vt vks) w1 (by decide)
              have hZ := (renE_facts name zz (.mk vk vn vt vks) w1 (by decide)).1
              refine renElim name zz (.mk vk vn vt vks) fun zk zn zt zks hze => ?_
              rw [hze] at zF hZ
              refine AWP.skip ?_
              refine AWP.seq ?_
              refine AWP.region ?_
              refine Y (Yields.load_ptr_agg (j := 3) kd30 rfl rfl rfl rfl) rfl ?_
              refine Y (mv rfl) rfl ?_
              refine AOps.callro (zF) rfl rfl rfl ?_
              refine Y (mv rfl) rfl ?_
              refine Y (Yields.extract rfl rfl) rfl ?_
              refine Y (Yields.extract rfl rfl) rfl ?_
              refine AOps.alloc rfl z30 rfl rfl fun b5 => ?_
              refine AOps.store (j := 0) kd30 rfl rfl rfl rfl rfl rfl ?_
              refine Y (ass rfl) rfl ?_
              refine AOps.nil ?_
              refine AWP.seq ?_
              refine AWP.region ?_
              refine Y (Yields.load_ptr_agg (j := 0) kd30 rfl rfl rfl rfl) rfl ?_
              refine Y (Yields.load_ptr_agg (j := 4) kd30 rfl rfl rfl rfl) rfl ?_
              refine AOps.callro (iValueSame_AF (.mk zk zn zt zks) (.mk vk vn vt vks) hZ w1) rfl rfl rfl ?_
              refine Y (Yields.not rfl) rfl ?_
              refine Y (mv rfl) rfl ?_
              refine AOps.split 77 rfl (fun s6 => ?_) (fun s6 => ?_)
              · skip
                refine AOps.off' rfl rfl rfl rfl ?_
                refine AOps.off' rfl rfl rfl rfl ?_
                refine AOps.off' rfl rfl rfl rfl ?_
                refine Y (Yields.pick_true rfl rfl) rfl ?_
                refine Y (ass rfl) rfl ?_
                refine AOps.nil ?_
                refine AWP.ret ⟨.inl rfl, ?_⟩
                exact RetIs.oneV rfl rfl (by (rfl) <;> rfl)
              · skip
                refine AOps.on rfl rfl ?_
                refine Y (Yields.load_ptr_agg (j := 1) kd30 rfl rfl rfl rfl) rfl ?_
                refine AOps.on rfl rfl ?_
                refine Y (Yields.load_ptr_agg (j := 4) kd30 rfl rfl rfl rfl) rfl ?_
                refine AOps.on rfl rfl ?_
                refine AOps.callro (iValueSame_AF (.mk rk rn rt rks) (.mk vk vn vt vks) hB w1) rfl rfl rfl ?_
                have hbo : renB old (.mk ok on ot oks) = true := by simpa using s5
                have hvo : validV (.mk ok on ot oks) 6 = true ∧ isNameL old.data.toList = true := by simpa [renB] using hbo
                have hre2 : renT name old (.mk ok on ot oks) = .mk rk rn rt rks := by rw [← hre, renE, if_pos hvo]
                have hze2 : renT name zz (.mk vk vn vt vks) = .mk zk zn zt zks := by rw [← hze, renE, if_pos ⟨hv.1, by decide⟩]
                simp only [Bool.not_eq_false', Bool.and_eq_true] at s6
                have hzv := sameT_eq _ _ s6.2.2
                have hback := ren_back (old := old) (anyP_zz p2) (.mk vk vn vt vks) (hze2.trans hzv)
                rw [hoe2, hre2] at hback
                refine Y (Yields.pick_false rfl rfl) rfl ?_
                refine Y (ass rfl) rfl ?_
                refine AOps.nil ?_
                refine AWP.ret ⟨.inl rfl, ?_⟩
                exact RetIs.oneV rfl rfl (by (rw [hback]; simp [hv.1, sameT_refl]) <;> rfl)
    · skip
      simp [sameT_refl] at s1
end Go.Proofs.Ytnmodhbchfkfbaa
