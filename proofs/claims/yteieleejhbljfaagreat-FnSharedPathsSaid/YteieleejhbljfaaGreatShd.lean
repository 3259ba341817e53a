/- The draws of expressions with something twice; the laws of what is shared. -/
import Derived.Test.YteieleejhbljfaaGreatSames
import Derived.Test.YteieleejhbljfaaGreatShb
namespace Go.Proofs.YteieleejhbljfaaGreat
open Go Go.Ax Go.Proofs
set_option linter.unusedVariables false
set_option linter.unusedSimpArgs false
set_option maxRecDepth 20000
theorem twiceExpr_AH (b : Nat) (code : List UInt8) (p : Nat) (hc : code.length ≤ 1048576) (hp : p ≤ 400000) : FnH 33 [src b code p] [.ptr (some b) 0 0 2] (srcV 200000 b code p 200010) := by
  refine AH.intro Tryz.func33 nm33 rfl rfl rfl fun w0 ok0 own0 => ?_
  refine AWP.seq ?_
  refine AWP.region ?_
  refine AOps.alloc rfl z25 rfl rfl fun b2 => ?_
  refine AOps.nil ?_
  refine AWP.seq ?_
  refine AWP.region ?_
  refine Y (mv rfl) rfl ?_
  refine AOps.leads (Leads.pull 1 rfl) ?_
  refine AOps.callH (.inl trivial) (anyExpr_AH b code p hc (by omega)) rfl rfl rfl (WkL.refl _) ?_
  rintro _ _ ⟨⟨vk, vn, vt, vks⟩, q1, w1, w2, w3, w4, rfl, rfl⟩
  refine AOps.alloc rfl z25 rfl rfl fun b3 => ?_
  refine AOps.store (j := 0) kd25 rfl rfl rfl rfl rfl rfl ?_
  refine AOps.nil ?_
  refine AWP.seq ?_
  refine AWP.seq ?_
  refine AWP.region ?_
  refine Y (Yields.load_ptr_agg (j := 0) kd25 rfl rfl rfl rfl) rfl ?_
  refine AOps.callro (sExprOk_AF (.mk vk vn vt vks) w1 (by omega)) rfl rfl rfl ?_
  refine Y (Yields.not rfl) rfl ?_
  refine Y (mv rfl) rfl ?_
  refine AOps.split 9 rfl (fun g1 => ?_) (fun g1 => ?_)
  ·
   skip
   refine AOps.off' rfl rfl rfl rfl ?_
   refine AOps.off' rfl rfl rfl rfl ?_
   refine AOps.off' rfl rfl rfl rfl ?_
   refine Y (Yields.pick_true rfl rfl) rfl ?_
   refine Y (mv rfl) rfl ?_
   refine AOps.off' rfl rfl rfl rfl ?_
   refine AOps.off' rfl rfl rfl rfl ?_
   refine AOps.off' rfl rfl rfl rfl ?_
   refine Y (Yields.pick_true rfl rfl) rfl ?_
   refine AOps.nil ?_
   refine AWP.cond rfl (fun _ => ?_) (fun h => absurd h (by decide))
   refine AWP.seq ?_
   refine AWP.region ?_
   refine Y (Yields.load_ptr_agg (j := 0) kd25 rfl rfl rfl rfl) rfl ?_
   refine AOps.store (j := 2) kd25 rfl rfl rfl rfl rfl rfl ?_
   refine AOps.nil ?_
   refine AWP.ret ⟨.inl rfl, ?_⟩
   exact RetH.of (rs := [.cell 2 25]) (vs := [_]) rfl ⟨resOne.cell (j := 2) rfl rfl kd25 rfl rfl rfl, trivial⟩ (KeepR.cons 1 rfl KeepR.nil) (⟨(.mk vk vn vt vks), q1, w1, w2, by omega, by omega, rfl, rfl⟩)
  ·
   skip
   refine AOps.on rfl rfl ?_
   refine Y (Yields.load_ptr_agg (j := 0) kd25 rfl rfl rfl rfl) rfl ?_
   refine AOps.on rfl rfl ?_
   refine AOps.callro (ssize_AF (.mk vk vn vt vks) w1 (by omega)) rfl rfl rfl ?_
   refine AOps.on rfl rfl ?_
   refine Y (bn rfl rfl BinR.gtr rfl) rfl ?_
   refine Y (Yields.pick_false rfl rfl) rfl ?_
   refine Y (mv rfl) rfl ?_
   refine AOps.split 14 rfl (fun g2 => ?_) (fun g2 => ?_)
   ·
    replace g2 := of_decide_eq_true g2
    refine AOps.off' rfl rfl rfl rfl ?_
    refine AOps.off' rfl rfl rfl rfl ?_
    refine AOps.off' rfl rfl rfl rfl ?_
    refine Y (Yields.pick_true rfl rfl) rfl ?_
    refine AOps.nil ?_
    refine AWP.cond rfl (fun _ => ?_) (fun h => absurd h (by decide))
    refine AWP.seq ?_
    refine AWP.region ?_
    refine Y (Yields.load_ptr_agg (j := 0) kd25 rfl rfl rfl rfl) rfl ?_
    refine AOps.store (j := 2) kd25 rfl rfl rfl rfl rfl rfl ?_
    refine AOps.nil ?_
    refine AWP.ret ⟨.inl rfl, ?_⟩
    exact RetH.of (rs := [.cell 2 25]) (vs := [_]) rfl ⟨resOne.cell (j := 2) rfl rfl kd25 rfl rfl rfl, trivial⟩ (KeepR.cons 1 rfl KeepR.nil) (⟨(.mk vk vn vt vks), q1, w1, w2, by omega, by omega, rfl, rfl⟩)
   ·
    replace g2 := of_decide_eq_false g2
    refine AOps.on rfl rfl ?_
    refine Y (mv rfl) rfl ?_
    refine AOps.on rfl rfl ?_
    refine AOps.leads (Leads.pull 1 rfl) ?_
    refine AOps.callH (.inl trivial) (pick_AH b code q1 5 hc (by omega) (by omega) (by omega)) rfl rfl rfl (WkL.refl _) ?_
    rintro _ _ ⟨m0, q0, k1, k2, k3, k4, rfl, rfl⟩
    refine AOps.on rfl rfl ?_
    refine Y (bn rfl rfl BinR.eql rfl) rfl ?_
    refine Y (Yields.pick_false rfl rfl) rfl ?_
    refine AOps.nil ?_
    refine AWP.condT rfl (fun g3 => ?_) (fun g3 => ?_)
    ·
     replace g3 := eq_of_beq g3
     refine AWP.seq ?_
     refine AWP.region ?_
     refine Y (Yields.load_ptr_agg (j := 1) kd25 rfl rfl rfl rfl) rfl ?_
     refine AOps.store (j := 2) kd25 rfl rfl rfl rfl rfl rfl ?_
     refine AOps.nil ?_
     refine AWP.ret ⟨.inl rfl, ?_⟩
     exact RetH.of (rs := [.cell 2 25]) (vs := [_]) rfl ⟨resOne.cell (j := 2) rfl rfl kd25 rfl rfl rfl, trivial⟩ (KeepR.cons 0 rfl KeepR.nil) (⟨(.mk vk vn vt vks), q0, w1, w2, by omega, by omega, rfl, rfl⟩)
    ·
     replace g3 := ne_of_beq_false g3
     refine AWP.skip ?_
     refine AWP.seq ?_
     refine AWP.region ?_
     refine Y (Yields.load_ptr_agg (j := 1) kd25 rfl rfl rfl rfl) rfl ?_
     refine Y (Yields.load_ptr_agg (j := 1) kd25 rfl rfl rfl rfl) rfl ?_
     refine AOps.step (DStep.buildRo sl23 z25 rfl rfl rfl rfl) rfl ?_
     refine Y (Yields.build pl25 z25 rfl rfl) rfl ?_
     refine AOps.store (j := 2) kd25 rfl rfl rfl rfl rfl rfl ?_
     refine AOps.nil ?_
     refine AWP.ret ⟨.inl rfl, ?_⟩
     exact RetH.of (rs := [.cell 2 25]) (vs := [_]) rfl ⟨resOne.cell (j := 2) rfl rfl kd25 rfl rfl rfl, trivial⟩ (KeepR.cons 0 rfl KeepR.nil) (⟨.mk 9 0 ⟨#[61, 61]⟩ [(.mk vk vn vt vks), (.mk vk vn vt vks)], q0, bnd2 (by decide) w1 w1, by rw [size2]; omega, by omega, by omega, rfl, rfl⟩)
theorem drawSharedBest_AH (code : List UInt8) (hc : code.length ≤ 1048576) : FnH 17 [] [.ro 1 (bytesV code) [] false] (someV 200000) := by
  refine AH.intro Tryz.func17 nm17 rfl rfl rfl fun w0 ok0 own0 => ?_
  refine AWP.seq ?_
  refine AWP.region ?_
  refine AOps.alloc rfl z25 rfl rfl fun b2 => ?_
  refine AOps.nil ?_
  refine AWP.seq ?_
  refine AWP.region ?_
  refine Y (mv rfl) rfl ?_
  refine AOps.callH (.inl trivial) (from_AH code) rfl rfl rfl (WkL.refl _) ?_
  rintro _ _ ⟨b, rfl, rfl⟩
  refine AOps.callH (.inl trivial) (twiceExpr_AH b code 0 hc (by omega)) rfl rfl rfl (WkL.refl _) ?_
  rintro _ _ ⟨⟨vk, vn, vt, vks⟩, q1, w1, w2, w3, w4, rfl, rfl⟩
  refine AOps.store (j := 1) kd25 rfl rfl rfl rfl rfl rfl ?_
  refine AOps.nil ?_
  refine AWP.ret ⟨.inl rfl, ?_⟩
  exact RetH.of (rs := [.cell 2 25]) (vs := [_]) rfl ⟨resOne.cell (j := 1) rfl rfl kd25 rfl rfl rfl, trivial⟩ KeepR.nil (⟨(.mk vk vn vt vks), w1, w2, rfl, rfl⟩)
theorem drawSharedPaths_AH (code : List UInt8) (hc : code.length ≤ 1048576) : FnH 11 [] [.ro 1 (bytesV code) [] false] (someVI 200000) := by
  refine AH.intro Tryz.func11 nm11 rfl rfl rfl fun w0 ok0 own0 => ?_
  refine AWP.seq ?_
  refine AWP.region ?_
  refine AOps.alloc rfl z25 rfl rfl fun b2 => ?_
  refine Y (ass rfl) rfl ?_
  refine AOps.nil ?_
  refine AWP.seq ?_
  refine AWP.region ?_
  refine Y (mv rfl) rfl ?_
  refine AOps.callH (.inl trivial) (from_AH code) rfl rfl rfl (WkL.refl _) ?_
  rintro _ _ ⟨b, rfl, rfl⟩
  refine Y (ass rfl) rfl ?_
  refine AOps.nil ?_
  refine AWP.seq ?_
  refine AWP.region ?_
  refine Y (mv rfl) rfl ?_
  refine AOps.callH (.inl trivial) (twiceExpr_AH b code 0 hc (by omega)) rfl rfl rfl (WkL.refl _) ?_
  rintro _ _ ⟨⟨vk, vn, vt, vks⟩, q1, w1, w2, w3, w4, rfl, rfl⟩
  refine AOps.alloc rfl z25 rfl rfl fun b5 => ?_
  refine AOps.store (j := 0) kd25 rfl rfl rfl rfl rfl rfl ?_
  refine AOps.nil ?_
  refine AWP.seq ?_
  refine AWP.prune (tm' := [(0, _), (2, _), (3, _), (4, _), (5, _)]) ⟨rfl, rfl, rfl, rfl, rfl, trivial⟩ ?_
  refine AWP.drawnM [] [.pure 0, .pure 1, .pure 2, .spine 3 [] [1, 2], .spine 4 [] [0, 1, 2, 3], .pure 5] mixed rfl rfl rfl rfl rfl ?_
  refine DM.pure (GX (tm' := [(5, _)]) rfl ⟨rfl, trivial⟩ rfl (DStep.yields (Yields.load_ptr_agg (j := 0) kd25 rfl rfl rfl rfl)) rfl) ?_
  refine DM.pure (GX (tm' := [(4, _)]) rfl ⟨rfl, trivial⟩ rfl (DStep.yields (mv rfl)) rfl) ?_
  refine DM.pure (GX (tm' := [(5, _)]) rfl ⟨rfl, trivial⟩ rfl (DStep.yields (Yields.load_ptr_agg (j := 0) kd25 rfl rfl rfl rfl)) rfl) ?_
  refine DM.sp rfl rfl ?_
  refine DOpen.nil fun _ _ _ => ?_
  refine AOps.subT (tm' := [(11, _), (12, _)]) ⟨rfl, rfl, trivial⟩ ?_
  refine AOps.leads (Leads.pull 1 rfl) ?_
  refine AOps.callH (.inl trivial) (path_AH (.mk vk vn vt vks) b code q1 w1 w2 hc (by omega)) rfl rfl rfl ⟨Wk.refl _, Wk.refl _, Wk.nil, trivial⟩ ?_
  rintro _ _ ⟨l, q2, x1, x2, x3, rfl, rfl⟩
  refine AOps.nil ?_
  refine SpK.mk rfl rfl ?_ ?_
  ·
   skip
   refine Stab.skip rfl ?_
   refine Stab.skip rfl ?_
   refine Stab.skip rfl ?_
   refine Stab.keep (GX (tm' := [(5, _)]) rfl ⟨rfl, trivial⟩ rfl (DStep.yields (Yields.load_ptr_agg (j := 1) kd25 rfl rfl rfl rfl)) rfl) ?_
   exact trivial
  refine DM.sp rfl rfl ?_
  refine DOpen.nil fun _ _ _ => ?_
  refine AOps.subT (tm' := [(2, _), (10, _)]) ⟨rfl, rfl, trivial⟩ ?_
  refine AOps.store (j := 2) kd25 rfl rfl rfl rfl rfl rfl ?_
  refine AOps.nil ?_
  refine SpK.mk0 (Stab.all rfl) ?_
  refine DM.pure (GX (tm' := [(13, _)]) rfl ⟨rfl, trivial⟩ rfl (DStep.yields (ass rfl)) rfl) ?_
  refine DM.nil ?_
  refine AWP.ret ⟨.inl rfl, ?_⟩
  exact RetH.of (rs := [.cell 2 25, .tmp 3]) (vs := [_, _]) rfl ⟨resOne.cell (j := 2) rfl rfl kd25 rfl rfl rfl, rfl, trivial⟩ KeepR.nil (⟨(.mk vk vn vt vks), l, w1, w2, x1, rfl, rfl⟩)
mutual
theorem sameX_eq : ∀ a b : Tr, sameT a b = true → a = b
  | .mk k n t ks, .mk k' n' t' ks', h => by
    simp only [sameT, Bool.and_eq_true, decide_eq_true_eq] at h
    obtain ⟨h1, h2, h3, h4⟩ := h
    rw [h1, h2, h3, sameXs_eq ks ks' h4]
theorem sameXs_eq : ∀ a b : List Tr, sameTs a b = true → a = b
  | [], [], _ => rfl
  | k :: ks, k' :: ks', h => by
    simp only [sameTs, Bool.and_eq_true] at h
    rw [sameX_eq k k' h.1, sameXs_eq ks ks' h.2]
  | [], _ :: _, h => by simp [sameTs] at h
  | _ :: _, [], h => by simp [sameTs] at h
end
theorem shared_facts {k : Tr} {p : List Int} (h : (rowsR (sharedE k p)).length ≠ 0) : atB k p = true ∧ okE k = true ∧ okE (atE k p) = true ∧ ∀ w ∈ sharedE k p, atB k w = true ∧ atE k w = atE k p := by
  rw [rowsR_length] at h
  by_cases hb : atB k p = true
  · have hb2 : okE k = true ∧ (atT k p).isSome = true := by rw [atB, Bool.and_eq_true] at hb; exact hb
    obtain ⟨x, hx⟩ := Option.isSome_iff_exists.1 hb2.2
    have e : atE k p = x := by rw [atE, if_pos hb, atV, hx]; rfl
    refine ⟨hb, hb2.1, by rw [e]; exact okE_at hb2.1 hx, fun w hw => ?_⟩
    have hwp := sharedE_sub k p w hw
    have hws := pathsT_at k w hwp
    have hwb : atB k w = true := by rw [atB, hb2.1, hws]; rfl
    refine ⟨hwb, ?_⟩
    rw [sharedE, if_pos hb, sharedT] at hw
    split at hw
    · cases hw
    · have hf := (List.mem_filter.1 hw).2
      rw [sharedF, Bool.and_eq_true] at hf
      rw [atE, if_pos hwb, atE, if_pos hb]
      exact sameX_eq _ _ hf.1
  · rw [sharedE, if_neg hb] at h; exact absurd rfl h
theorem lawSharedPaths (code : List UInt8) : Fn 4 [.ro 1 (bytesV code) [] false] (bool true) := by
  have hl := bytesV_length code
  refine AF.intro Tryz.func4 nm4 rfl rfl rfl rfl fun w0 ok0 => ?_
  refine AWP.seq ?_
  refine AWP.region ?_
  refine Y (ass rfl) rfl ?_
  refine AOps.nil ?_
  refine AWP.seq ?_
  refine AWP.seq ?_
  refine AWP.region ?_
  refine Y (mv rfl) rfl ?_
  refine Y (Yields.len_ro sl22 rfl) rfl ?_
  refine Y (bn rfl rfl BinR.gtr rfl) rfl ?_
  refine AOps.nil ?_
  refine AWP.condT rfl (fun h => ?_) (fun h => ?_)
  ·
   replace h := of_decide_eq_true h
   refine AWP.seq ?_
   refine AWP.region ?_
   refine Y (ass rfl) rfl ?_
   refine AOps.nil ?_
   refine AWP.ret ⟨.inl rfl, ?_⟩
   exact RetIs.oneV rfl rfl (by (rfl) <;> rfl)
  ·
   replace h := of_decide_eq_false h
   refine AWP.skip ?_
   refine AWP.seq ?_
   refine AWP.region ?_
   refine Y (mv rfl) rfl ?_
   refine AOps.callH (.inr rfl) (drawSharedPaths_AH code (by omega)) rfl rfl rfl (WkL.refl _) ?_
   rintro _ _ ⟨⟨vk, vn, vt, vks⟩, p, w1, w2, w3, rfl, rfl⟩
   refine Y (mv rfl) rfl ?_
   refine Y (Yields.extract rfl rfl) rfl ?_
   refine Y (Yields.extract rfl rfl) rfl ?_
   refine AOps.alloc rfl z25 rfl rfl fun b3 => ?_
   have hsl := sharedE_length (.mk vk vn vt vks) p
   have hpl := pathsT_length (.mk vk vn vt vks)
   have hsh : ∀ q ∈ sharedE (.mk vk vn vt vks) p, q.length ≤ 200000 := fun q hq => by have := pathsT_short (.mk vk vn vt vks) q (sharedE_sub _ _ q hq); omega
   have hlr := rowsR_length (sharedE (.mk vk vn vt vks) p)
   have hfs := @shared_facts (.mk vk vn vt vks) p
   have hxb := atE_facts (.mk vk vn vt vks) p w1
   have aF := iExprAt_AF (.mk vk vn vt vks) w1 (by omega) p (by omega)
   refine AOps.store (j := 0) kd25 rfl rfl rfl rfl rfl rfl ?_
   refine Y (ass rfl) rfl ?_
   refine AOps.nil ?_
   refine AWP.seq ?_
   refine AWP.region ?_
   refine Y (Yields.load_ptr_agg (j := 0) kd25 rfl rfl rfl rfl) rfl ?_
   refine Y (mv rfl) rfl ?_
   refine AOps.callro (iSharedPaths_AF (.mk vk vn vt vks) w1 (by omega) p (by omega)) rfl rfl rfl ?_
   refine Y (ass rfl) rfl ?_
   refine AOps.nil ?_
   refine AWP.seq ?_
   refine AWP.region ?_
   refine Y (Yields.load_ptr_agg (j := 0) kd25 rfl rfl rfl rfl) rfl ?_
   refine Y (mv rfl) rfl ?_
   refine AOps.callro (sSharedPaths_AF (.mk vk vn vt vks) w1 (by omega) p (by omega)) rfl rfl rfl ?_
   refine Y (ass rfl) rfl ?_
   refine AOps.nil ?_
   refine AWP.seq ?_
   refine AWP.region ?_
   refine Y (mv rfl) rfl ?_
   refine Y (mv rfl) rfl ?_
   refine AOps.callro (sSameRows_AF (sharedE (.mk vk vn vt vks) p) (by omega) (fun q hq => by have := hsh q hq; omega)) rfl rfl rfl ?_
   refine Y (ass rfl) rfl ?_
   refine AOps.nil ?_
   refine AWP.seq ?_
   refine AWP.seq ?_
   refine AWP.region ?_
   refine Y (mv rfl) rfl ?_
   refine Y (Yields.not rfl) rfl ?_
   refine Y (mv rfl) rfl ?_
   refine AOps.split 33 rfl (fun s1 => ?_) (fun s1 => ?_)
   ·
    skip
    simp at s1
   ·
    skip
    refine AOps.on rfl rfl ?_
    refine Y (mv rfl) rfl ?_
    refine AOps.on rfl rfl ?_
    refine Y (Yields.len_ro sl35 rfl) rfl ?_
    refine AOps.on rfl rfl ?_
    refine Y (bn rfl rfl BinR.eql rfl) rfl ?_
    refine Y (Yields.pick_false rfl rfl) rfl ?_
    refine AOps.nil ?_
    refine AWP.condT rfl (fun s2 => ?_) (fun s2 => ?_)
    ·
     replace s2 := eq_of_beq s2
     refine AWP.seq ?_
     refine AWP.region ?_
     refine Y (mv rfl) rfl ?_
     refine Y (ass rfl) rfl ?_
     refine AOps.nil ?_
     refine AWP.ret ⟨.inl rfl, ?_⟩
     exact RetIs.oneV rfl rfl (by (rfl) <;> rfl)
    ·
     replace s2 := ne_of_beq_false s2
     obtain ⟨f1, f2, f3, f4⟩ := hfs (by omega)
     refine trElim (atE (.mk vk vn vt vks) p) fun zk zn zt zks hzz => ?_
     rw [hzz, f1] at aF
     rw [hzz] at f3 f4 hxb
     generalize sharedE (.mk vk vn vt vks) p = L at *
     refine AWP.skip ?_
     refine AWP.seq ?_
     refine AWP.region ?_
     refine Y (Yields.load_ptr_agg (j := 0) kd25 rfl rfl rfl rfl) rfl ?_
     refine Y (mv rfl) rfl ?_
     refine AOps.callro (aF) rfl rfl rfl ?_
     refine Y (mv rfl) rfl ?_
     refine Y (Yields.extract rfl rfl) rfl ?_
     refine Y (Yields.extract rfl rfl) rfl ?_
     refine AOps.alloc rfl z25 rfl rfl fun b8 => ?_
     refine AOps.store (j := 0) kd25 rfl rfl rfl rfl rfl rfl ?_
     refine Y (ass rfl) rfl ?_
     refine AOps.nil ?_
     refine AWP.seq ?_
     refine AWP.seq ?_
     refine AWP.region ?_
     refine Y (mv rfl) rfl ?_
     refine Y (Yields.len_ro sl35 rfl) rfl ?_
     refine Y (mv rfl) rfl ?_
     refine AOps.nil ?_
     refine AWP.block ?_
     refine AWP.loopV (α := Nat) (fun i : Nat => ⟨[(3, .ptr (some b3) 0 0 4), (8, .ptr (some b8) 0 0 4), (9, bool true), (45, .ro 1 (rowsR L) [] false), (46, int (rowsR L).length), (47, int i)], [(some b3, ⟨4, [Tr.av (.mk vk vn vt vks)]⟩), (some b8, ⟨4, [Tr.av (.mk zk zn zt zks)]⟩)]⟩) (fun i : Nat => i ≤ L.length) (fun i : Nat => L.length - i) (0) ?_ ?_ ?_
     · exact Leads.keepR (KeepR.cons 1 rfl (KeepR.cons 0 rfl KeepR.nil)) ⟨rfl, rfl, rfl, rfl, rfl, rfl, trivial⟩
     ·
      show 0 ≤ L.length
      exact Nat.zero_le _
     ·
      rintro i hinv
      refine AWP.seq ?_
      refine AWP.region ?_
      refine Y (bn rfl rfl BinR.lss rfl) rfl ?_
      refine AOps.nil ?_
      refine AWP.seq ?_
      refine AWP.condT rfl (fun g => ?_) (fun g => ?_)
      ·
       replace g := of_decide_eq_true g
       obtain ⟨w, hw, _⟩ := drop_at (l := L) (i := i) (by omega)
       have hwL := List.mem_of_getElem? hw
       have wF := iExprAt_AF (.mk vk vn vt vks) w1 (by omega) w (by have := hsh w hwL; omega)
       rw [(f4 w hwL).1, (f4 w hwL).2] at wF
       refine AWP.skip ?_
       refine AWP.seq ?_
       refine AWP.block ?_
       refine AWP.seq ?_
       refine AWP.region ?_
       refine Y (Yields.idx_roN sl35 rfl rfl rfl rfl (by omega)) rfl ?_
       refine Y (Yields.load_rop_one kd32 rfl (rowsR_at hw) rfl) rfl ?_
       refine Y (ass rfl) rfl ?_
       refine AOps.nil ?_
       refine AWP.seq ?_
       refine AWP.region ?_
       refine Y (Yields.load_ptr_agg (j := 0) kd25 rfl rfl rfl rfl) rfl ?_
       refine Y (mv rfl) rfl ?_
       refine AOps.callro (wF) rfl rfl rfl ?_
       refine Y (mv rfl) rfl ?_
       refine Y (Yields.extract rfl rfl) rfl ?_
       refine Y (Yields.extract rfl rfl) rfl ?_
       refine AOps.alloc rfl z25 rfl rfl fun b12 => ?_
       refine AOps.store (j := 0) kd25 rfl rfl rfl rfl rfl rfl ?_
       refine Y (ass rfl) rfl ?_
       refine AOps.nil ?_
       refine AWP.seq ?_
       refine AWP.region ?_
       refine Y (mv rfl) rfl ?_
       refine Y (Yields.not rfl) rfl ?_
       refine Y (mv rfl) rfl ?_
       refine AOps.split 59 rfl (fun q1 => ?_) (fun q1 => ?_)
       ·
        skip
        cases q1
       ·
        skip
        refine AOps.on rfl rfl ?_
        refine Y (mv rfl) rfl ?_
        refine AOps.on rfl rfl ?_
        refine Y (Yields.not rfl) rfl ?_
        refine Y (Yields.pick_false rfl rfl) rfl ?_
        refine Y (mv rfl) rfl ?_
        refine AOps.split 63 rfl (fun q2 => ?_) (fun q2 => ?_)
        ·
         skip
         cases q2
        ·
         skip
         refine AOps.on rfl rfl ?_
         refine Y (Yields.load_ptr_agg (j := 2) kd25 rfl rfl rfl rfl) rfl ?_
         refine AOps.on rfl rfl ?_
         refine Y (Yields.load_ptr_agg (j := 0) kd25 rfl rfl rfl rfl) rfl ?_
         refine AOps.on rfl rfl ?_
         refine AOps.callro (iExprSame_AF (.mk zk zn zt zks) (.mk zk zn zt zks) hxb hxb) rfl rfl rfl ?_
         refine AOps.on rfl rfl ?_
         refine Y (Yields.not rfl) rfl ?_
         refine Y (Yields.pick_false rfl rfl) rfl ?_
         refine AOps.nil ?_
         refine AWP.condT rfl (fun q3 => ?_) (fun q3 => ?_)
         ·
          skip
          rw [f3, sameT_refl] at q3; cases q3
         ·
          skip
          refine AWP.skip ?_
          refine AWP.region ?_
          refine Y (bn rfl rfl (BinR.addI (by omega) (by omega)) rfl) rfl ?_
          refine Y (mv rfl) rfl ?_
          refine AOps.nil ?_
          refine ⟨i + 1, ?_, ?_, ?_⟩
          ·
           show L.length - (i + 1) < L.length - i
           omega
          ·
           show (i + 1) ≤ L.length
           show i + 1 ≤ L.length; omega
          · exact Leads.keepR (KeepR.cons 1 rfl (KeepR.cons 1 rfl KeepR.nil)) ⟨rfl, rfl, rfl, rfl, rfl, rfl, trivial⟩
      ·
       replace g := of_decide_eq_false g
       refine AWP.exit ?_
       refine AWP.seq ?_
       refine AWP.region ?_
       refine Y (ass rfl) rfl ?_
       refine AOps.nil ?_
       refine AWP.ret ⟨.inl rfl, ?_⟩
       exact RetIs.oneV rfl rfl (by (rfl) <;> rfl)
def kindT : Tr → Int | .mk k _ _ _ => k
theorem pathsK_mem : ∀ (ks : List Tr) (i : Nat) (p : List Int), p ∈ pathsK ks i ↔ ∃ (j : Nat) (x : Tr) (q : List Int), p = ((i + j : Nat) : Int) :: q ∧ ks[j]? = some x ∧ q ∈ pathsT x
  | [], i, p => by simp [pathsK]
  | k :: ks, i, p => by
    rw [pathsK, List.mem_append, List.mem_map, pathsK_mem ks (i + 1) p]
    constructor
    · rintro (⟨q, hq, rfl⟩ | ⟨j, x, q, rfl, hx, hq⟩)
      · exact ⟨0, k, q, rfl, rfl, hq⟩
      · exact ⟨j + 1, x, q, by rw [show i + 1 + j = i + (j + 1) by omega], by simpa using hx, hq⟩
    · rintro ⟨j, x, q, rfl, hx, hq⟩
      cases j with
      | zero => simp at hx; subst hx; exact .inl ⟨q, hq, rfl⟩
      | succ j => exact .inr ⟨j, x, q, by rw [show i + 1 + j = i + (j + 1) by omega], by simpa using hx, hq⟩
theorem atV_in {a b : Int} {c : ByteArray} {ks : List Tr} {j : Nat} {q : List Int} {x : Tr} (h : ks[j]? = some x) : atV (.mk a b c ks) (((0 + j : Nat) : Int) :: q) = atV x q := by
  rw [atV, atV, Nat.zero_add, atT_in h]
mutual
theorem hasT_iff (l : List Int) : ∀ (k : Tr), hasT k l = true ↔ ∃ v ∈ pathsT k, memI l (kindT (atV k v)) = true
  | .mk a b c ks => by
    rw [hasT, Bool.or_eq_true, hasTs_iff l ks, pathsT]
    constructor
    · rintro (h | ⟨j, x, q, hx, hq, hm⟩)
      · exact ⟨[], List.mem_cons_self, by rw [atV, atT]; exact h⟩
      · exact ⟨((0 + j : Nat) : Int) :: q, List.mem_cons_of_mem _ ((pathsK_mem ks 0 _).2 ⟨j, x, q, rfl, hx, hq⟩), by rw [atV_in hx]; exact hm⟩
    · rintro ⟨v, hv, hm⟩
      rcases List.mem_cons.1 hv with rfl | hv
      · rw [atV, atT] at hm; exact .inl hm
      · obtain ⟨j, x, q, rfl, hx, hq⟩ := (pathsK_mem ks 0 v).1 hv
        rw [atV_in hx] at hm
        exact .inr ⟨j, x, q, hx, hq, hm⟩
theorem hasTs_iff (l : List Int) : ∀ (ks : List Tr), hasTs ks l = true ↔ ∃ (j : Nat) (x : Tr) (q : List Int), ks[j]? = some x ∧ q ∈ pathsT x ∧ memI l (kindT (atV x q)) = true
  | [] => by simp [hasTs]
  | k :: ks => by
    rw [hasTs, Bool.or_eq_true, hasT_iff l k, hasTs_iff l ks]
    constructor
    · rintro (⟨v, hv, hm⟩ | ⟨j, x, q, hx, hq, hm⟩)
      · exact ⟨0, k, v, rfl, hv, hm⟩
      · exact ⟨j + 1, x, q, by simpa using hx, hq, hm⟩
    · rintro ⟨j, x, q, hx, hq, hm⟩
      cases j with
      | zero => simp at hx; subst hx; exact .inl ⟨q, hq, hm⟩
      | succ j => exact .inr ⟨j, x, q, by simpa using hx, hq, hm⟩
end
theorem plainX_iff (k : Tr) : plainX k = true ↔ ∀ v ∈ pathsT k, memI [4, 14, 15] (kindT (atV k v)) = false := by
  rw [plainX]
  constructor
  · intro h v hv
    cases hm : memI [4, 14, 15] (kindT (atV k v)) with
    | false => rfl
    | true => rw [(hasT_iff [4, 14, 15] k).2 ⟨v, hv, hm⟩] at h; cases h
  · intro h
    cases hh : hasT k [4, 14, 15] with
    | false => rfl
    | true => obtain ⟨v, hv, hm⟩ := (hasT_iff [4, 14, 15] k).1 hh; rw [h v hv] at hm; cases hm
theorem memI3 (n : Int) : memI [4, 14, 15] n = false ↔ n ≠ 4 ∧ n ≠ 14 ∧ n ≠ 15 := by simp [memI]
theorem bestS_spec (k : Tr) (q0 : List Int) : ∀ (L : List (List Int)) (a : List Int × Int), (0 < a.2 → goodW k a.1 = true ∧ a.2 = wonT k a.1) → 0 ≤ a.2 → a.2 ≤ (bestS k L a).2 ∧ (0 < (bestS k L a).2 → goodW k (bestS k L a).1 = true ∧ (bestS k L a).2 = wonT k (bestS k L a).1 ∧ ((bestS k L a).1 ∈ L ∨ bestS k L a = a)) ∧ ∀ w ∈ L, goodW k w = true → wonT k w ≤ (bestS k L a).2
  | [], a, h, h0 => ⟨Int.le_refl _, fun hp => ⟨(h hp).1, (h hp).2, .inr rfl⟩, fun w hw => by cases hw⟩
  | w :: L, a, h, h0 => by
    rw [bestS]
    split
    · rename_i hc
      obtain ⟨i1, i2, i3⟩ := bestS_spec k q0 L (w, wonT k w) (fun _ => ⟨hc.1, rfl⟩) (by have := hc.2; show 0 ≤ wonT k w; omega)
      have i1' : wonT k w ≤ (bestS k L (w, wonT k w)).2 := i1
      refine ⟨by have := hc.2; omega, fun hp => ?_, fun u hu hg => ?_⟩
      · obtain ⟨j1, j2, j3⟩ := i2 hp
        refine ⟨j1, j2, .inl ?_⟩
        rcases j3 with j3 | j3
        · exact List.mem_cons_of_mem _ j3
        · rw [j3]; exact List.mem_cons_self
      · rcases List.mem_cons.1 hu with rfl | hu
        · exact i1'
        · exact i3 u hu hg
    · rename_i hc
      obtain ⟨i1, i2, i3⟩ := bestS_spec k q0 L a h h0
      refine ⟨i1, fun hp => ?_, fun u hu hg => ?_⟩
      · obtain ⟨j1, j2, j3⟩ := i2 hp
        refine ⟨j1, j2, ?_⟩
        rcases j3 with j3 | j3
        · exact .inl (List.mem_cons_of_mem _ j3)
        · exact .inr j3
      · rcases List.mem_cons.1 hu with rfl | hu
        · have : ¬ a.2 < wonT k u := fun q => hc ⟨hg, q⟩
          omega
        · exact i3 u hu hg
theorem best_facts {k : Tr} (h : 0 < (bestE k).2) : okE k = true ∧ (bestE k).1 ∈ pathsT k ∧ (bestE k).2 = wonT k (bestE k).1 ∧ ∀ w ∈ pathsT k, plainX (atV k w) = true → wonT k w ≤ (bestE k).2 := by
  by_cases hk : okE k = true
  · rw [bestE, if_pos hk] at h ⊢
    obtain ⟨i1, i2, i3⟩ := bestS_spec k [] (pathsT k) ([], 0) (fun q => by simp at q) (Int.le_refl _)
    obtain ⟨j1, j2, j3⟩ := i2 h
    refine ⟨hk, ?_, j2, fun w hw hp => ?_⟩
    · rcases j3 with j3 | j3
      · exact j3
      · rw [j3] at h; simp at h
    · by_cases hg : goodW k w = true
      · exact i3 w hw hg
      · have hs := sizeT_pos (atV k w)
        have : wonT k w ≤ 0 := by
          unfold wonT
          have hg2 : ¬ (2 ≤ sizeT (atV k w) ∧ 2 ≤ (sharedT k w).length) := fun q => hg (by rw [goodW, hp]; simp; exact q)
          by_cases h2 : 2 ≤ sizeT (atV k w)
          · exact Int.mul_nonpos_of_nonpos_of_nonneg (by omega) (by omega)
          · rw [show sizeT (atV k w) - 1 = 0 by omega, Int.mul_zero]; omega
        omega
  · rw [bestE, if_neg hk] at h; simp at h
theorem lawSharedBest (code : List UInt8) : Fn 5 [.ro 1 (bytesV code) [] false] (bool true) := by
  have hl := bytesV_length code
  refine AF.intro Tryz.func5 nm5 rfl rfl rfl rfl fun w0 ok0 => ?_
  refine AWP.seq ?_
  refine AWP.region ?_
  refine Y (ass rfl) rfl ?_
  refine AOps.nil ?_
  refine AWP.seq ?_
  refine AWP.seq ?_
  refine AWP.region ?_
  refine Y (mv rfl) rfl ?_
  refine Y (Yields.len_ro sl22 rfl) rfl ?_
  refine Y (bn rfl rfl BinR.gtr rfl) rfl ?_
  refine AOps.nil ?_
  refine AWP.condT rfl (fun h => ?_) (fun h => ?_)
  · replace h := of_decide_eq_true h
    refine AWP.seq ?_
    refine AWP.region ?_
    refine Y (ass rfl) rfl ?_
    refine AOps.nil ?_
    refine AWP.ret ⟨.inl rfl, ?_⟩
    exact RetIs.oneV rfl rfl (by (rfl) <;> rfl)
  · replace h := of_decide_eq_false h
    refine AWP.skip ?_
    refine AWP.seq ?_
    refine AWP.region ?_
    refine Y (mv rfl) rfl ?_
    refine AOps.callH (.inr rfl) (drawSharedBest_AH code (by omega)) rfl rfl rfl (WkL.refl _) ?_
    rintro _ _ ⟨⟨vk, vn, vt, vks⟩, w1, w2, rfl, rfl⟩
    refine AOps.alloc rfl z25 rfl rfl fun b3 => ?_
    have hbf := @best_facts (.mk vk vn vt vks)
    have hql := bestE_length (.mk vk vn vt vks) 200000 (by omega)
    have iF := iSharedBest_AF (.mk vk vn vt vks) w1 (by omega)
    have sF := sSharedBest_AF (.mk vk vn vt vks) w1 (by omega)
    have hpl := pathsT_length (.mk vk vn vt vks)
    generalize bestE (.mk vk vn vt vks) = bq at hbf hql iF sF
    obtain ⟨q, most⟩ := bq
    simp only at hbf hql iF sF
    refine AOps.store (j := 0) kd25 rfl rfl rfl rfl rfl rfl ?_
    refine AOps.nil ?_
    refine AWP.seq ?_
    refine AWP.region ?_
    refine Y (Yields.load_ptr_agg (j := 0) kd25 rfl rfl rfl rfl) rfl ?_
    refine AOps.callro (iF) rfl rfl rfl ?_
    refine Y (mv rfl) rfl ?_
    refine Y (Yields.extract rfl rfl) rfl ?_
    refine Y (Yields.extract rfl rfl) rfl ?_
    refine Y (ass rfl) rfl ?_
    refine Y (ass rfl) rfl ?_
    refine AOps.nil ?_
    refine AWP.seq ?_
    refine AWP.region ?_
    refine Y (Yields.load_ptr_agg (j := 0) kd25 rfl rfl rfl rfl) rfl ?_
    refine AOps.callro (sF) rfl rfl rfl ?_
    refine Y (mv rfl) rfl ?_
    refine Y (Yields.extract rfl rfl) rfl ?_
    refine Y (Yields.extract rfl rfl) rfl ?_
    refine Y (ass rfl) rfl ?_
    refine Y (ass rfl) rfl ?_
    refine AOps.nil ?_
    refine AWP.seq ?_
    refine AWP.region ?_
    refine Y (mv rfl) rfl ?_
    refine Y (mv rfl) rfl ?_
    refine AOps.callro (sSameInts_AF q (by omega)) rfl rfl rfl ?_
    refine Y (mv rfl) rfl ?_
    refine AOps.split 39 rfl (fun s0 => ?_) (fun s0 => ?_)
    · skip
      refine AOps.on rfl rfl ?_
      refine Y (mv rfl) rfl ?_
      refine AOps.on rfl rfl ?_
      refine Y (mv rfl) rfl ?_
      refine AOps.on rfl rfl ?_
      refine Y (bn rfl rfl (BinR.beql Tryz.underlying4) rfl) rfl ?_
      refine Y (Yields.pick_true rfl rfl) rfl ?_
      refine Y (ass rfl) rfl ?_
      refine AOps.nil ?_
      refine AWP.seq ?_
      refine AWP.seq ?_
      refine AWP.region ?_
      refine Y (mv rfl) rfl ?_
      refine Y (Yields.not rfl) rfl ?_
      refine Y (mv rfl) rfl ?_
      refine AOps.split 46 rfl (fun s1 => ?_) (fun s1 => ?_)
      · skip
        simp at s1
      · skip
        refine AOps.on rfl rfl ?_
        refine Y (mv rfl) rfl ?_
        refine AOps.on rfl rfl ?_
        refine Y (Yields.not rfl) rfl ?_
        refine Y (Yields.pick_false rfl rfl) rfl ?_
        refine AOps.nil ?_
        refine AWP.condT rfl (fun s2 => ?_) (fun s2 => ?_)
        · skip
          refine AWP.seq ?_
          refine AWP.region ?_
          refine Y (mv rfl) rfl ?_
          refine Y (ass rfl) rfl ?_
          refine AOps.nil ?_
          refine AWP.ret ⟨.inl rfl, ?_⟩
          exact RetIs.oneV rfl rfl (by (simp) <;> rfl)
        · skip
          have hm : 0 < most := by simpa using s2
          obtain ⟨f1, f2, f3, f4⟩ := hbf hm
          have hall : ∀ w ∈ pathsT (.mk vk vn vt vks), atB (.mk vk vn vt vks) w = true ∧ atE (.mk vk vn vt vks) w = atV (.mk vk vn vt vks) w ∧ okE (atV (.mk vk vn vt vks) w) = true ∧ (atV (.mk vk vn vt vks) w).bnd 1000000 ∧ sizeT (atV (.mk vk vn vt vks) w) ≤ 200000 ∧ w.length ≤ 200000 ∧ (sharedT (.mk vk vn vt vks) w).length ≤ 200000 ∧ sharedE (.mk vk vn vt vks) w = sharedT (.mk vk vn vt vks) w := by
             intro w hw
             have hs := pathsT_at (.mk vk vn vt vks) w hw
             obtain ⟨x, hx⟩ := Option.isSome_iff_exists.1 hs
             have e : atV (.mk vk vn vt vks) w = x := by rw [atV, hx]; rfl
             have hb : atB (.mk vk vn vt vks) w = true := by rw [atB, f1, hs]; rfl
             have h1 := atT_size w (.mk vk vn vt vks) x hx
             have h2 := pathsT_short (.mk vk vn vt vks) w hw
             have h3 := sharedT_length (.mk vk vn vt vks) w
             exact ⟨hb, by rw [atE, if_pos hb], by rw [e]; exact okE_at f1 hx, by rw [e]; exact atV_bnd w (.mk vk vn vt vks) w1 x hx, by rw [e]; omega, by omega, by omega, by rw [sharedE, if_pos hb]⟩
          obtain ⟨a1, a2, a3, a4, a5, a6, a7, a8⟩ := hall q f2
          have xF := iExprAt_AF (.mk vk vn vt vks) w1 (by omega) q (by omega)
          have spF := iSharedPaths_AF (.mk vk vn vt vks) w1 (by omega) q (by omega)
          have szF := iExprSize_AF (atV (.mk vk vn vt vks) q) a4 (by omega)
          have hrl := rowsR_length (sharedT (.mk vk vn vt vks) q)
          rw [a1, a2] at xF
          rw [a8] at spF
          rw [sizeE, if_pos a3] at szF
          rw [wonT, ← hrl] at f3
          have hsp := sizeT_pos (atV (.mk vk vn vt vks) q)
          have pF := iExprPaths_AF (.mk vk vn vt vks) w1 (by omega)
          rw [pathsE, if_pos f1] at pF
          obtain ⟨L, hL⟩ : ∃ L, pathsT (.mk vk vn vt vks) = L := ⟨_, rfl⟩
          rw [hL] at pF hall hpl f4
          have hLr := rowsR_length L
          refine trElim (atV (.mk vk vn vt vks) q) fun xk xn xt xks hxx => ?_
          rw [hxx] at xF szF f3 a5 hsp
          refine AWP.skip ?_
          refine AWP.seq ?_
          refine AWP.region ?_
          refine Y (Yields.load_ptr_agg (j := 0) kd25 rfl rfl rfl rfl) rfl ?_
          refine Y (mv rfl) rfl ?_
          refine AOps.callro (xF) rfl rfl rfl ?_
          refine Y (mv rfl) rfl ?_
          refine Y (Yields.extract rfl rfl) rfl ?_
          refine Y (Yields.extract rfl rfl) rfl ?_
          refine AOps.alloc rfl z25 rfl rfl fun b9 => ?_
          refine AOps.store (j := 0) kd25 rfl rfl rfl rfl rfl rfl ?_
          refine Y (ass rfl) rfl ?_
          refine AOps.nil ?_
          refine AWP.seq ?_
          refine AWP.prune (tm' := [(0, _), (2, _), (23, _), (3, _), (4, _), (5, _), (6, _), (7, _), (8, _), (49, _), (9, _)]) ⟨rfl, rfl, rfl, rfl, rfl, rfl, rfl, rfl, rfl, rfl, rfl, trivial⟩ ?_
          refine AWP.drawn mixed rfl rfl ?_
          refine D (tm' := [(3, _)]) ⟨rfl, trivial⟩ (DStep.yields (Yields.load_ptr_agg (j := 1) kd25 rfl rfl rfl rfl)) rfl ?_
          refine D (tm' := [(4, _)]) ⟨rfl, trivial⟩ (DStep.yields (mv rfl)) rfl ?_
          refine D (tm' := [(57, _), (58, _)]) ⟨rfl, rfl, trivial⟩ (DStep.callro (spF) rfl rfl) rfl ?_
          refine D (tm' := [(59, _)]) ⟨rfl, trivial⟩ (DStep.yields (Yields.len_ro sl35 rfl)) rfl ?_
          refine D (tm' := [(60, _)]) ⟨rfl, trivial⟩ (DStep.yields (bn rfl rfl (BinR.subI (by omega) (by omega)) rfl)) rfl ?_
          refine D (tm' := [(9, _)]) ⟨rfl, trivial⟩ (DStep.yields (Yields.load_ptr_agg (j := 0) kd25 rfl rfl rfl rfl)) rfl ?_
          refine D (tm' := [(62, _)]) ⟨rfl, trivial⟩ (DStep.callro (szF) rfl rfl) rfl ?_
          refine D (tm' := [(63, _)]) ⟨rfl, trivial⟩ (DStep.yields (bn rfl rfl (BinR.subI (by omega) (by omega)) rfl)) rfl ?_
          have hnz : 0 ≤ (rowsR (sharedT (.mk vk vn vt vks) q)).length * (sizeT (.mk xk xn xt xks) - 1) := Int.mul_nonneg (by omega) (by omega)
          have hnz1 : 0 < ((((rowsR (sharedT (.mk vk vn vt vks) q)).length : Nat) : Int) - 1) * (sizeT (.mk xk xn xt xks) - 1) := by rw [← f3]; exact hm
          have hnz2 : ((((rowsR (sharedT (.mk vk vn vt vks) q)).length : Nat) : Int) - 1) * (sizeT (.mk xk xn xt xks) - 1) ≤ 200000 * 200000 := Int.mul_le_mul (by omega) (by omega) (by omega) (by omega)
          refine D (tm' := [(61, _), (64, _)]) ⟨rfl, rfl, trivial⟩ (DStep.yields (bn rfl rfl (BinR.mulI (by omega) (by omega)) rfl)) rfl ?_
          refine D (tm' := [(65, _)]) ⟨rfl, trivial⟩ (DStep.yields (ass rfl)) rfl ?_
          refine DOps.nil ?_
          refine AWP.seq ?_
          refine AWP.seq ?_
          refine AWP.region ?_
          rw [← f3]
          refine Y (Yields.load_ptr_agg (j := 1) kd25 rfl rfl rfl rfl) rfl ?_
          refine AOps.callro (pF) rfl rfl rfl ?_
          refine Y (Yields.len_ro sl35 rfl) rfl ?_
          refine Y (mv rfl) rfl ?_
          refine AOps.nil ?_
          refine AWP.block ?_
          refine AWP.loopV (α := Nat) (fun i : Nat => ⟨[(3, .ptr (some b3) 0 0 4), (11, int most), (67, .ro 1 (rowsR L) [] false), (68, int (rowsR L).length), (69, int i)], [(some b3, ⟨4, [Tr.av (.mk vk vn vt vks)]⟩)]⟩) (fun i : Nat => i ≤ L.length) (fun i : Nat => L.length - i) (0) ?_ ?_ ?_
          · exact Leads.keepR (KeepR.cons 1 rfl KeepR.nil) ⟨rfl, rfl, rfl, rfl, rfl, trivial⟩
          · show 0 ≤ L.length
            exact Nat.zero_le _
          · rintro i hinv
            refine AWP.seq ?_
            refine AWP.region ?_
            refine Y (bn rfl rfl BinR.lss rfl) rfl ?_
            refine AOps.nil ?_
            refine AWP.seq ?_
            refine AWP.condT rfl (fun g => ?_) (fun g => ?_)
            · replace g := of_decide_eq_true g
              refine AWP.skip ?_
              refine AWP.seq ?_
              obtain ⟨w, hw, _⟩ := drop_at (l := L) (i := i) (by omega)
              have hwL := List.mem_of_getElem? hw
              obtain ⟨c1, c2, c3, c4, c5, c6, c7, c8⟩ := hall w hwL
              have hcap := f4 w hwL
              have wF := iExprAt_AF (.mk vk vn vt vks) w1 (by omega) w (by omega)
              have wsF := iSharedPaths_AF (.mk vk vn vt vks) w1 (by omega) w (by omega)
              have wzF := iExprSize_AF (atV (.mk vk vn vt vks) w) c4 (by omega)
              have wpF := iExprPaths_AF (atV (.mk vk vn vt vks) w) c4 (by omega)
              have hrw := rowsR_length (sharedT (.mk vk vn vt vks) w)
              have hpx := plainX_iff (atV (.mk vk vn vt vks) w)
              have hya := pathsT_at (atV (.mk vk vn vt vks) w)
              have hys := pathsT_short (atV (.mk vk vn vt vks) w)
              have hyl := pathsT_length (atV (.mk vk vn vt vks) w)
              rw [c1, c2] at wF
              rw [c8] at wsF
              rw [sizeE, if_pos c3] at wzF
              rw [pathsE, if_pos c3] at wpF
              rw [wonT, ← hrw] at hcap
              have hwp := sizeT_pos (atV (.mk vk vn vt vks) w)
              refine trElim (atV (.mk vk vn vt vks) w) fun zk zn zt zks hzz => ?_
              rw [hzz] at wF wzF wpF hcap hpx hya hys hyl c3 c4 c5 hwp
              obtain ⟨Ly, hLy⟩ : ∃ Ly, pathsT (.mk zk zn zt zks) = Ly := ⟨_, rfl⟩
              rw [hLy] at wpF hpx hya hys hyl
              have hLyr := rowsR_length Ly
              refine AWP.block ?_
              refine AWP.seq ?_
              refine AWP.region ?_
              refine Y (Yields.idx_roN sl35 rfl rfl rfl rfl (by omega)) rfl ?_
              refine Y (Yields.load_rop_one kd32 rfl (rowsR_at hw) rfl) rfl ?_
              refine Y (ass rfl) rfl ?_
              refine AOps.nil ?_
              refine AWP.seq ?_
              refine AWP.region ?_
              refine Y (Yields.load_ptr_agg (j := 0) kd25 rfl rfl rfl rfl) rfl ?_
              refine Y (mv rfl) rfl ?_
              refine AOps.callro (wF) rfl rfl rfl ?_
              refine Y (mv rfl) rfl ?_
              refine Y (Yields.extract rfl rfl) rfl ?_
              refine Y (Yields.extract rfl rfl) rfl ?_
              refine AOps.alloc rfl z25 rfl rfl fun b14 => ?_
              refine AOps.store (j := 0) kd25 rfl rfl rfl rfl rfl rfl ?_
              refine Y (ass rfl) rfl ?_
              refine AOps.nil ?_
              refine AWP.seq ?_
              refine AWP.region ?_
              refine Y (ass rfl) rfl ?_
              refine AOps.nil ?_
              refine AWP.seq ?_
              refine AWP.seq ?_
              refine AWP.region ?_
              refine Y (Yields.load_ptr_agg (j := 0) kd25 rfl rfl rfl rfl) rfl ?_
              refine AOps.callro (wpF) rfl rfl rfl ?_
              refine Y (Yields.len_ro sl35 rfl) rfl ?_
              refine Y (mv rfl) rfl ?_
              refine AOps.nil ?_
              refine AWP.block ?_
              refine AWP.loopV (α := Nat × Bool) (fun pp : Nat × Bool => match pp with | (j, qt) => ⟨[(3, .ptr (some b3) 0 0 4), (11, int most), (13, .ro 1 (ints w) [] false), (14, .ptr (some b14) 0 0 4), (16, bool qt), (67, .ro 1 (rowsR L) [] false), (68, int (rowsR L).length), (69, int i), (80, .ro 1 (rowsR Ly) [] false), (81, int (rowsR Ly).length), (82, int j)], [(some b3, ⟨4, [Tr.av (.mk vk vn vt vks)]⟩), (some b14, ⟨4, [Tr.av (.mk zk zn zt zks)]⟩)]⟩) (fun pp : Nat × Bool => match pp with | (j, qt) => j ≤ Ly.length ∧ (qt = true → ∀ v ∈ Ly.take j, memI [4, 14, 15] (kindT (atV (.mk zk zn zt zks) v)) = false)) (fun pp : Nat × Bool => match pp with | (j, qt) => Ly.length - j) ((0, true)) ?_ ?_ ?_
              · exact Leads.keepR (KeepR.cons 1 rfl (KeepR.cons 0 rfl KeepR.nil)) ⟨rfl, rfl, rfl, rfl, rfl, rfl, rfl, rfl, rfl, rfl, rfl, trivial⟩
              · show 0 ≤ Ly.length ∧ (true = true → ∀ v ∈ Ly.take 0, memI [4, 14, 15] (kindT (atV (.mk zk zn zt zks) v)) = false)
                exact ⟨Nat.zero_le _, fun _ v hv => by simp at hv⟩
              · rintro ⟨j, qt⟩ hinv
                replace hinv : j ≤ Ly.length ∧ (qt = true → ∀ v ∈ Ly.take j, memI [4, 14, 15] (kindT (atV (.mk zk zn zt zks) v)) = false) := hinv
                show AWP _ _ _ _ ⟨[(3, .ptr (some b3) 0 0 4), (11, int most), (13, .ro 1 (ints w) [] false), (14, .ptr (some b14) 0 0 4), (16, bool qt), (67, .ro 1 (rowsR L) [] false), (68, int (rowsR L).length), (69, int i), (80, .ro 1 (rowsR Ly) [] false), (81, int (rowsR Ly).length), (82, int j)], [(some b3, ⟨4, [Tr.av (.mk vk vn vt vks)]⟩), (some b14, ⟨4, [Tr.av (.mk zk zn zt zks)]⟩)]⟩
                refine AWP.seq ?_
                refine AWP.region ?_
                obtain ⟨hj, hq⟩ := hinv
                refine Y (bn rfl rfl BinR.lss rfl) rfl ?_
                refine AOps.nil ?_
                refine AWP.seq ?_
                refine AWP.condT rfl (fun g2 => ?_) (fun g2 => ?_)
                · replace g2 := of_decide_eq_true g2
                  obtain ⟨v, hv, _⟩ := drop_at (l := Ly) (i := j) (by omega)
                  have hvL := List.mem_of_getElem? hv
                  have hvs := hya v hvL
                  have hvb : atB (.mk zk zn zt zks) v = true := by rw [atB, c3, hvs]; rfl
                  have hvl := hys v hvL
                  have vF := iExprAt_AF (.mk zk zn zt zks) c4 (by omega) v (by omega)
                  rw [hvb, atE, if_pos hvb] at vF
                  have htk : Ly.take (j + 1) = Ly.take j ++ [v] := by rw [List.take_add_one, hv]; rfl
                  have hnx : ∀ n : Int, kindT (atV (.mk zk zn zt zks) v) = n → ∀ qt' : Bool, (qt' = true → qt = true ∧ n ≠ 4 ∧ n ≠ 14 ∧ n ≠ 15) → (qt' = true → ∀ u ∈ Ly.take (j + 1), memI [4, 14, 15] (kindT (atV (.mk zk zn zt zks) u)) = false) := by
                     intro n hn qt' h1 h2 u hu
                     obtain ⟨h3, h4⟩ := h1 h2
                     rw [htk, List.mem_append, List.mem_singleton] at hu
                     rcases hu with hu | rfl
                     · exact hq h3 u hu
                     · rw [hn]; exact (memI3 n).2 h4
                  refine trElim (atV (.mk zk zn zt zks) v) fun uk un ut uks huu => ?_
                  rw [huu] at vF hnx
                  replace hnx := hnx uk rfl
                  refine AWP.skip ?_
                  refine AWP.seq ?_
                  refine AWP.block ?_
                  refine AWP.seq ?_
                  refine AWP.region ?_
                  refine Y (Yields.idx_roN sl35 rfl rfl rfl rfl (by omega)) rfl ?_
                  refine Y (Yields.load_rop_one kd32 rfl (rowsR_at hv) rfl) rfl ?_
                  refine Y (ass rfl) rfl ?_
                  refine AOps.nil ?_
                  refine AWP.seq ?_
                  refine AWP.region ?_
                  refine Y (Yields.load_ptr_agg (j := 1) kd25 rfl rfl rfl rfl) rfl ?_
                  refine Y (mv rfl) rfl ?_
                  refine AOps.callro (vF) rfl rfl rfl ?_
                  refine Y (mv rfl) rfl ?_
                  refine Y (Yields.extract rfl rfl) rfl ?_
                  refine Y (Yields.extract rfl rfl) rfl ?_
                  refine AOps.alloc rfl z25 rfl rfl fun b19 => ?_
                  refine AOps.store (j := 0) kd25 rfl rfl rfl rfl rfl rfl ?_
                  refine Y (ass rfl) rfl ?_
                  refine AOps.nil ?_
                  refine AWP.region ?_
                  refine Y (mv rfl) rfl ?_
                  refine Y (mv rfl) rfl ?_
                  refine AOps.split 93 rfl (fun r1 => ?_) (fun r1 => ?_)
                  · skip
                    refine AOps.on rfl rfl ?_
                    refine Y (Yields.fieldAddr_ptr fo25_0 rfl) rfl ?_
                    refine AOps.on rfl rfl ?_
                    refine Y (Yields.load_ptr_field (j := 0) kd3 rfl rfl rfl rfl rfl rfl rfl) rfl ?_
                    refine AOps.on rfl rfl ?_
                    refine Y (bn rfl rfl BinR.neq rfl) rfl ?_
                    refine Y (Yields.pick_true rfl rfl) rfl ?_
                    refine Y (mv rfl) rfl ?_
                    refine AOps.split 98 rfl (fun r2 => ?_) (fun r2 => ?_)
                    · replace r2 := bne_iff_ne.1 r2
                      refine AOps.on rfl rfl ?_
                      refine Y (Yields.fieldAddr_ptr fo25_0 rfl) rfl ?_
                      refine AOps.on rfl rfl ?_
                      refine Y (Yields.load_ptr_field (j := 0) kd3 rfl rfl rfl rfl rfl rfl rfl) rfl ?_
                      refine AOps.on rfl rfl ?_
                      refine Y (bn rfl rfl BinR.neq rfl) rfl ?_
                      refine Y (Yields.pick_true rfl rfl) rfl ?_
                      refine Y (mv rfl) rfl ?_
                      refine AOps.split 103 rfl (fun r3 => ?_) (fun r3 => ?_)
                      · replace r3 := bne_iff_ne.1 r3
                        refine AOps.on rfl rfl ?_
                        refine Y (Yields.fieldAddr_ptr fo25_0 rfl) rfl ?_
                        refine AOps.on rfl rfl ?_
                        refine Y (Yields.load_ptr_field (j := 0) kd3 rfl rfl rfl rfl rfl rfl rfl) rfl ?_
                        refine AOps.on rfl rfl ?_
                        refine Y (bn rfl rfl BinR.neq rfl) rfl ?_
                        refine Y (Yields.pick_true rfl rfl) rfl ?_
                        refine Y (ass rfl) rfl ?_
                        refine AOps.nil ?_
                        refine AWP.region ?_
                        refine Y (bn rfl rfl (BinR.addI (by omega) (by omega)) rfl) rfl ?_
                        refine Y (mv rfl) rfl ?_
                        refine AOps.nil ?_
                        refine ⟨(j + 1, uk != 15), ?_, ?_, ?_⟩
                        · show Ly.length - (j + 1) < Ly.length - j
                          omega
                        · show (j + 1) ≤ Ly.length ∧ ((uk != 15) = true → ∀ v ∈ Ly.take (j + 1), memI [4, 14, 15] (kindT (atV (.mk zk zn zt zks) v)) = false)
                          exact ⟨by omega, hnx _ (fun e => ⟨r1, r2, r3, by simpa using e⟩)⟩
                        · exact Leads.keepR (KeepR.cons 1 rfl (KeepR.cons 1 rfl KeepR.nil)) ⟨rfl, rfl, rfl, rfl, rfl, rfl, rfl, rfl, rfl, rfl, rfl, trivial⟩
                      · replace r3 := bne_eq_false_iff_eq.1 r3
                        refine AOps.off' rfl rfl rfl rfl ?_
                        refine AOps.off' rfl rfl rfl rfl ?_
                        refine AOps.off' rfl rfl rfl rfl ?_
                        refine Y (Yields.pick_false rfl rfl) rfl ?_
                        refine Y (ass rfl) rfl ?_
                        refine AOps.nil ?_
                        refine AWP.region ?_
                        refine Y (bn rfl rfl (BinR.addI (by omega) (by omega)) rfl) rfl ?_
                        refine Y (mv rfl) rfl ?_
                        refine AOps.nil ?_
                        refine ⟨(j + 1, false), ?_, ?_, ?_⟩
                        · show Ly.length - (j + 1) < Ly.length - j
                          omega
                        · show (j + 1) ≤ Ly.length ∧ (false = true → ∀ v ∈ Ly.take (j + 1), memI [4, 14, 15] (kindT (atV (.mk zk zn zt zks) v)) = false)
                          exact ⟨by omega, hnx _ (fun e => by cases e)⟩
                        · exact Leads.keepR (KeepR.cons 1 rfl (KeepR.cons 1 rfl KeepR.nil)) ⟨rfl, rfl, rfl, rfl, rfl, rfl, rfl, rfl, rfl, rfl, rfl, trivial⟩
                    · replace r2 := bne_eq_false_iff_eq.1 r2
                      refine AOps.off' rfl rfl rfl rfl ?_
                      refine AOps.off' rfl rfl rfl rfl ?_
                      refine AOps.off' rfl rfl rfl rfl ?_
                      refine Y (Yields.pick_false rfl rfl) rfl ?_
                      refine Y (mv rfl) rfl ?_
                      refine AOps.off' rfl rfl rfl rfl ?_
                      refine AOps.off' rfl rfl rfl rfl ?_
                      refine AOps.off' rfl rfl rfl rfl ?_
                      refine Y (Yields.pick_false rfl rfl) rfl ?_
                      refine Y (ass rfl) rfl ?_
                      refine AOps.nil ?_
                      refine AWP.region ?_
                      refine Y (bn rfl rfl (BinR.addI (by omega) (by omega)) rfl) rfl ?_
                      refine Y (mv rfl) rfl ?_
                      refine AOps.nil ?_
                      refine ⟨(j + 1, false), ?_, ?_, ?_⟩
                      · show Ly.length - (j + 1) < Ly.length - j
                        omega
                      · show (j + 1) ≤ Ly.length ∧ (false = true → ∀ v ∈ Ly.take (j + 1), memI [4, 14, 15] (kindT (atV (.mk zk zn zt zks) v)) = false)
                        exact ⟨by omega, hnx _ (fun e => by cases e)⟩
                      · exact Leads.keepR (KeepR.cons 1 rfl (KeepR.cons 1 rfl KeepR.nil)) ⟨rfl, rfl, rfl, rfl, rfl, rfl, rfl, rfl, rfl, rfl, rfl, trivial⟩
                  · skip
                    refine AOps.off' rfl rfl rfl rfl ?_
                    refine AOps.off' rfl rfl rfl rfl ?_
                    refine AOps.off' rfl rfl rfl rfl ?_
                    refine Y (Yields.pick_false rfl rfl) rfl ?_
                    refine Y (mv rfl) rfl ?_
                    refine AOps.off' rfl rfl rfl rfl ?_
                    refine AOps.off' rfl rfl rfl rfl ?_
                    refine AOps.off' rfl rfl rfl rfl ?_
                    refine Y (Yields.pick_false rfl rfl) rfl ?_
                    refine Y (mv rfl) rfl ?_
                    refine AOps.off' rfl rfl rfl rfl ?_
                    refine AOps.off' rfl rfl rfl rfl ?_
                    refine AOps.off' rfl rfl rfl rfl ?_
                    refine Y (Yields.pick_false rfl rfl) rfl ?_
                    refine Y (ass rfl) rfl ?_
                    refine AOps.nil ?_
                    refine AWP.region ?_
                    refine Y (bn rfl rfl (BinR.addI (by omega) (by omega)) rfl) rfl ?_
                    refine Y (mv rfl) rfl ?_
                    refine AOps.nil ?_
                    refine ⟨(j + 1, false), ?_, ?_, ?_⟩
                    · show Ly.length - (j + 1) < Ly.length - j
                      omega
                    · show (j + 1) ≤ Ly.length ∧ (false = true → ∀ v ∈ Ly.take (j + 1), memI [4, 14, 15] (kindT (atV (.mk zk zn zt zks) v)) = false)
                      exact ⟨by omega, hnx _ (fun e => by cases e)⟩
                    · exact Leads.keepR (KeepR.cons 1 rfl (KeepR.cons 1 rfl KeepR.nil)) ⟨rfl, rfl, rfl, rfl, rfl, rfl, rfl, rfl, rfl, rfl, rfl, trivial⟩
                · replace g2 := of_decide_eq_false g2
                  refine AWP.exit ?_
                  refine AWP.seq ?_
                  refine AWP.prune (tm' := [(3, _), (11, _), (13, _), (14, _), (16, _), (67, _), (68, _), (69, _), (80, _), (81, _), (82, _), (83, _)]) ⟨rfl, rfl, rfl, rfl, rfl, rfl, rfl, rfl, rfl, rfl, rfl, rfl, trivial⟩ ?_
                  refine AWP.drawn mixed rfl rfl ?_
                  refine D (tm' := [(16, _)]) ⟨rfl, trivial⟩ (DStep.yields (mv rfl)) rfl ?_
                  refine D (tm' := [(109, _)]) ⟨rfl, trivial⟩ (DStep.yields (mv rfl)) rfl ?_
                  refine DOps.split 1 rfl (fun r4 => ?_) (fun r4 => ?_)
                  · skip
                    refine DOps.on rfl rfl ?_
                    refine D (tm' := [(3, _)]) ⟨rfl, trivial⟩ (DStep.yields (Yields.load_ptr_agg (j := 0) kd25 rfl rfl rfl rfl)) rfl ?_
                    refine DOps.on rfl rfl ?_
                    refine D (tm' := [(13, _)]) ⟨rfl, trivial⟩ (DStep.yields (mv rfl)) rfl ?_
                    refine DOps.on rfl rfl ?_
                    refine D (tm' := [(111, _), (112, _)]) ⟨rfl, rfl, trivial⟩ (DStep.callro (wsF) rfl rfl) rfl ?_
                    refine DOps.on rfl rfl ?_
                    refine D (tm' := [(113, _)]) ⟨rfl, trivial⟩ (DStep.yields (Yields.len_ro sl35 rfl)) rfl ?_
                    refine DOps.on rfl rfl ?_
                    refine D (tm' := [(114, _)]) ⟨rfl, trivial⟩ (DStep.yields (bn rfl rfl (BinR.subI (by omega) (by omega)) rfl)) rfl ?_
                    refine DOps.on rfl rfl ?_
                    refine D (tm' := [(14, _)]) ⟨rfl, trivial⟩ (DStep.yields (Yields.load_ptr_agg (j := 1) kd25 rfl rfl rfl rfl)) rfl ?_
                    refine DOps.on rfl rfl ?_
                    refine D (tm' := [(116, _)]) ⟨rfl, trivial⟩ (DStep.callro (wzF) rfl rfl) rfl ?_
                    refine DOps.on rfl rfl ?_
                    refine D (tm' := [(117, _)]) ⟨rfl, trivial⟩ (DStep.yields (bn rfl rfl (BinR.subI (by omega) (by omega)) rfl)) rfl ?_
                    have hpl2 : plainX (.mk zk zn zt zks) = true := hpx.2 (fun u hu => hq r4 u (by rw [List.take_of_length_le (by omega)]; exact hu))
                    have hcap := hcap hpl2
                    have hn1 : ((((rowsR (sharedT (.mk vk vn vt vks) w)).length : Nat) : Int) - 1) * (sizeT (.mk zk zn zt zks) - 1) ≤ 200000 * 200000 := by
                       by_cases hz0 : (rowsR (sharedT (.mk vk vn vt vks) w)).length = 0
                       · rw [hz0]; simp; omega
                       · exact Int.mul_le_mul (by omega) (by omega) (by omega) (by omega)
                    have hn2 : -200000 ≤ ((((rowsR (sharedT (.mk vk vn vt vks) w)).length : Nat) : Int) - 1) * (sizeT (.mk zk zn zt zks) - 1) := by
                       by_cases hz0 : (rowsR (sharedT (.mk vk vn vt vks) w)).length = 0
                       · rw [hz0]; simp; omega
                       · have := Int.mul_nonneg (a := (((rowsR (sharedT (.mk vk vn vt vks) w)).length : Nat) : Int) - 1) (b := sizeT (.mk zk zn zt zks) - 1) (by omega) (by omega); omega
                    refine DOps.on rfl rfl ?_
                    refine D (tm' := [(115, _), (118, _)]) ⟨rfl, rfl, trivial⟩ (DStep.yields (bn rfl rfl (BinR.mulI (by omega) (by omega)) rfl)) rfl ?_
                    refine DOps.on rfl rfl ?_
                    refine D (tm' := [(11, _)]) ⟨rfl, trivial⟩ (DStep.yields (mv rfl)) rfl ?_
                    refine DOps.on rfl rfl ?_
                    refine D (tm' := [(119, _), (120, _)]) ⟨rfl, rfl, trivial⟩ (DStep.yields (bn rfl rfl BinR.gtr rfl)) rfl ?_
                    refine D (tm' := [(110, _), (121, _)]) ⟨rfl, rfl, trivial⟩ (DStep.yields (Yields.pick_true rfl rfl)) rfl ?_
                    refine DOps.nil ?_
                    refine AWP.condT rfl (fun r5 => ?_) (fun r5 => ?_)
                    · replace r5 := of_decide_eq_true r5
                      omega
                    · replace r5 := of_decide_eq_false r5
                      refine AWP.skip ?_
                      refine AWP.region ?_
                      refine Y (bn rfl rfl (BinR.addI (by omega) (by omega)) rfl) rfl ?_
                      refine Y (mv rfl) rfl ?_
                      refine AOps.nil ?_
                      refine ⟨i + 1, ?_, ?_, ?_⟩
                      · show L.length - (i + 1) < L.length - i
                        omega
                      · show (i + 1) ≤ L.length
                        show i + 1 ≤ L.length; omega
                      · exact Leads.keepR (KeepR.cons 0 rfl KeepR.nil) ⟨rfl, rfl, rfl, rfl, rfl, trivial⟩
                  · skip
                    refine DOps.off rfl rfl rfl rfl ?_
                    refine DOps.off rfl rfl rfl rfl ?_
                    refine DOps.off rfl rfl rfl rfl ?_
                    refine DOps.off rfl rfl rfl rfl ?_
                    refine DOps.off rfl rfl rfl rfl ?_
                    refine DOps.off rfl rfl rfl rfl ?_
                    refine DOps.off rfl rfl rfl rfl ?_
                    refine DOps.off rfl rfl rfl rfl ?_
                    refine DOps.off rfl rfl rfl rfl ?_
                    refine DOps.off rfl rfl rfl rfl ?_
                    refine DOps.off rfl rfl rfl rfl ?_
                    refine D (tm' := [(110, _), (121, _)]) ⟨rfl, rfl, trivial⟩ (DStep.yields (Yields.pick_false rfl rfl)) rfl ?_
                    refine DOps.nil ?_
                    refine AWP.cond rfl (fun h => absurd h (by decide)) (fun _ => ?_)
                    refine AWP.skip ?_
                    refine AWP.region ?_
                    refine Y (bn rfl rfl (BinR.addI (by omega) (by omega)) rfl) rfl ?_
                    refine Y (mv rfl) rfl ?_
                    refine AOps.nil ?_
                    refine ⟨i + 1, ?_, ?_, ?_⟩
                    · show L.length - (i + 1) < L.length - i
                      omega
                    · show (i + 1) ≤ L.length
                      show i + 1 ≤ L.length; omega
                    · exact Leads.keepR (KeepR.cons 0 rfl KeepR.nil) ⟨rfl, rfl, rfl, rfl, rfl, trivial⟩
            · replace g := of_decide_eq_false g
              refine AWP.exit ?_
              refine AWP.seq ?_
              refine AWP.region ?_
              refine Y (mv rfl) rfl ?_
              refine Y (bn rfl rfl BinR.gtr rfl) rfl ?_
              refine Y (ass rfl) rfl ?_
              refine AOps.nil ?_
              refine AWP.ret ⟨.inl rfl, ?_⟩
              exact RetIs.oneV rfl rfl (by (rw [decide_eq_true hm]) <;> rfl)
    · skip
      cases s0
end Go.Proofs.YteieleejhbljfaaGreat
