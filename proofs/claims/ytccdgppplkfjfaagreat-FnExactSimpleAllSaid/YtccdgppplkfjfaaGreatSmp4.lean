/- Simpler expressions: the reference's rules; SimpleRule. -/
import Derived.Test.YtccdgppplkfjfaaGreatSmp3
import Derived.Test.YtccdgppplkfjfaaGreatPath
namespace Go.Proofs.YtccdgppplkfjfaaGreat
open Go Go.Ax Go.Proofs
set_option linter.unusedVariables false
set_option linter.unusedSimpArgs false
set_option maxRecDepth 20000
theorem simpleIf_AH (nm : Int) (t : ByteArray) (ck cn : Int) (ct : ByteArray) (cks : List Tr) (xk xn : Int) (xt : ByteArray) (xks : List Tr) (yk yn : Int) (yt : ByteArray) (yks : List Tr) (d : Int) (hcb : Tr.bnd 1000000 (.mk ck cn ct cks)) (hxb : Tr.bnd 1000000 (.mk xk xn xt xks)) (hc : validS (.mk ck cn ct cks) d = true) (hx : validS (.mk xk xn xt xks) d = true) (hyv : yk = 1 → yn = 0 ∨ yn = 1) : FnH 35 [] [Tr.av (.mk 10 nm t [(.mk ck cn ct cks), (.mk xk xn xt xks), (.mk yk yn yt yks)])] (simV (simIf [(.mk ck cn ct cks), (.mk xk xn xt xks), (.mk yk yn yt yks)] (.mk 10 nm t [(.mk ck cn ct cks), (.mk xk xn xt xks), (.mk yk yn yt yks)]))) := by
  have ho := okLit_of hc hcb
  have hox := okLit_of hx hxb
  refine AH.intro Tryz.func35 nm35 rfl rfl rfl fun w0 ok0 own0 => ?_
  refine AWP.seq ?_
  refine AWP.region ?_
  refine AOps.box rfl rfl rfl rfl fun b1 => ?_
  refine AOps.alloc rfl z28 rfl rfl fun b2 => ?_
  refine Y (ass rfl) rfl ?_
  refine AOps.nil ?_
  refine AWP.seq ?_
  refine AWP.region ?_
  refine Y (Yields.fieldAddr_ptr fo28_3 rfl) rfl ?_
  refine Y (Yields.load_ptr_field (j := 1) kd26 rfl rfl rfl rfl rfl rfl rfl) rfl ?_
  refine Y (Yields.idx_roN sl26 rfl rfl rfl (j := 0) rfl (by simp [Tr.avs])) rfl ?_
  refine Y (Yields.load_rop_aggV kd28 rfl rfl rfl) rfl ?_
  refine AOps.alloc rfl z28 rfl rfl fun b4 => ?_
  refine AOps.store (j := 0) kd28 rfl rfl rfl rfl rfl rfl ?_
  refine AOps.nil ?_
  refine AWP.seq ?_
  refine AWP.block ?_
  refine AWP.seq ?_
  refine AWP.region ?_
  refine Y (Yields.load_ptr_agg (j := 0) kd28 rfl rfl rfl rfl) rfl ?_
  refine AOps.callro (sisTrue_AF ck cn ct cks (fun e => (ho.2.1 e).1)) rfl rfl rfl ?_
  refine Y (ass rfl) rfl ?_
  refine AOps.nil ?_
  refine AWP.condT rfl (fun e1 => ?_) (fun e1 => ?_)
  ·
   skip
   refine AWP.seq ?_
   refine AWP.region ?_
   refine Y (Yields.fieldAddr_ptr fo28_3 rfl) rfl ?_
   refine Y (Yields.load_ptr_field (j := 2) kd26 rfl rfl rfl rfl rfl rfl rfl) rfl ?_
   refine Y (Yields.idx_roN sl26 rfl rfl rfl (j := 1) rfl (by simp [Tr.avs])) rfl ?_
   refine Y (Yields.load_rop_aggV kd28 rfl rfl rfl) rfl ?_
   refine AOps.store (j := 1) kd28 rfl rfl rfl rfl rfl rfl ?_
   refine Y (ass rfl) rfl ?_
   refine AOps.nil ?_
   refine AWP.ret ⟨.inl rfl, ?_⟩
   exact RetH.of (rs := [.cell 2 28, .tmp 3]) (vs := [_, _]) rfl ⟨resOne.cell (j := 1) rfl rfl kd28 rfl rfl rfl, rfl, trivial⟩ KeepR.nil (⟨by rw [simIf, if_pos e1]; rfl, rfl⟩)
  ·
   skip
   refine AWP.seq ?_
   refine AWP.region ?_
   refine Y (Yields.load_ptr_agg (j := 0) kd28 rfl rfl rfl rfl) rfl ?_
   refine AOps.callro (sisFalse_AF ck cn ct cks (fun e => (ho.2.1 e).1)) rfl rfl rfl ?_
   refine Y (ass rfl) rfl ?_
   refine AOps.nil ?_
   refine AWP.condT rfl (fun e2 => ?_) (fun e2 => ?_)
   ·
    skip
    refine AWP.seq ?_
    refine AWP.region ?_
    refine Y (Yields.fieldAddr_ptr fo28_3 rfl) rfl ?_
    refine Y (Yields.load_ptr_field (j := 2) kd26 rfl rfl rfl rfl rfl rfl rfl) rfl ?_
    refine Y (Yields.idx_roN sl26 rfl rfl rfl (j := 2) rfl (by simp [Tr.avs])) rfl ?_
    refine Y (Yields.load_rop_aggV kd28 rfl rfl rfl) rfl ?_
    refine AOps.store (j := 1) kd28 rfl rfl rfl rfl rfl rfl ?_
    refine Y (ass rfl) rfl ?_
    refine AOps.nil ?_
    refine AWP.ret ⟨.inl rfl, ?_⟩
    exact RetH.of (rs := [.cell 2 28, .tmp 3]) (vs := [_, _]) rfl ⟨resOne.cell (j := 1) rfl rfl kd28 rfl rfl rfl, rfl, trivial⟩ KeepR.nil (⟨by rw [simIf, if_neg (by rw [e1]; simp), if_pos e2]; rfl, rfl⟩)
   ·
    skip
    refine AWP.midE (α := Bool) (fun f3 : Bool => ⟨[(1, .ptr (some b1) 0 0 4), (2, .ptr (some b2) 0 0 4), (4, .ptr (some b4) 0 0 4), (23, bool f3)], [(some b1, ⟨4, [Tr.av (.mk 10 nm t [(.mk ck cn ct cks), (.mk xk xn xt xks), (.mk yk yn yt yks)])]⟩), (some b2, ⟨4, [zero4]⟩), (some b4, ⟨4, [Tr.av (.mk ck cn ct cks)]⟩)]⟩) (fun f3 : Bool => f3 = true ↔ isB (.mk xk xn xt xks) 1 = true ∧ isB (.mk yk yn yt yks) 0 = true) ?_ ?_
    ·
     skip
     refine AWP.region ?_
     refine Y (Yields.fieldAddr_ptr fo28_3 rfl) rfl ?_
     refine Y (Yields.load_ptr_field (j := 2) kd26 rfl rfl rfl rfl rfl rfl rfl) rfl ?_
     refine Y (Yields.idx_roN sl26 rfl rfl rfl (j := 1) rfl (by simp [Tr.avs])) rfl ?_
     refine Y (Yields.load_rop_aggV kd28 rfl rfl rfl) rfl ?_
     refine AOps.callro (sisTrue_AF xk xn xt xks (fun e => (hox.2.1 e).1)) rfl rfl rfl ?_
     refine Y (mv rfl) rfl ?_
     refine AOps.split 29 rfl (fun g1 => ?_) (fun g1 => ?_)
     ·
      skip
      refine AOps.on rfl rfl ?_
      refine Y (Yields.fieldAddr_ptr fo28_3 rfl) rfl ?_
      refine AOps.on rfl rfl ?_
      refine Y (Yields.load_ptr_field (j := 2) kd26 rfl rfl rfl rfl rfl rfl rfl) rfl ?_
      refine AOps.on rfl rfl ?_
      refine Y (Yields.idx_roN sl26 rfl rfl rfl (j := 2) rfl (by simp [Tr.avs])) rfl ?_
      refine AOps.on rfl rfl ?_
      refine Y (Yields.load_rop_aggV kd28 rfl rfl rfl) rfl ?_
      refine AOps.on rfl rfl ?_
      refine AOps.callro (sisFalse_AF yk yn yt yks hyv) rfl rfl rfl ?_
      refine Y (Yields.pick_true rfl rfl) rfl ?_
      refine Y (ass rfl) rfl ?_
      refine AOps.nil ?_
      refine ⟨isB (.mk yk yn yt yks) 0, ?_, ?_⟩
      ·
       show (isB (.mk yk yn yt yks) 0) = true ↔ isB (.mk xk xn xt xks) 1 = true ∧ isB (.mk yk yn yt yks) 0 = true
       simp [g1]
      · exact Leads.keepR (KeepR.cons 2 rfl (KeepR.cons 1 rfl (KeepR.cons 0 rfl KeepR.nil))) ⟨rfl, rfl, rfl, rfl, trivial⟩
     ·
      skip
      refine AOps.off' rfl rfl rfl rfl ?_
      refine AOps.off' rfl rfl rfl rfl ?_
      refine AOps.off' rfl rfl rfl rfl ?_
      refine AOps.off' rfl rfl rfl rfl ?_
      refine AOps.off' rfl rfl rfl rfl ?_
      refine Y (Yields.pick_false rfl rfl) rfl ?_
      refine Y (ass rfl) rfl ?_
      refine AOps.nil ?_
      refine ⟨false, ?_, ?_⟩
      ·
       show false = true ↔ isB (.mk xk xn xt xks) 1 = true ∧ isB (.mk yk yn yt yks) 0 = true
       simp [g1]
      · exact Leads.keepR (KeepR.cons 2 rfl (KeepR.cons 1 rfl (KeepR.cons 0 rfl KeepR.nil))) ⟨rfl, rfl, rfl, rfl, trivial⟩
    ·
     rintro f3 hinv
     refine AWP.condT rfl (fun e3 => ?_) (fun e3 => ?_)
     ·
      skip
      refine AWP.seq ?_
      refine AWP.region ?_
      refine Y (Yields.load_ptr_agg (j := 2) kd28 rfl rfl rfl rfl) rfl ?_
      refine AOps.store (j := 1) kd28 rfl rfl rfl rfl rfl rfl ?_
      refine Y (ass rfl) rfl ?_
      refine AOps.nil ?_
      refine AWP.ret ⟨.inl rfl, ?_⟩
      exact RetH.of (rs := [.cell 2 28, .tmp 3]) (vs := [_, _]) rfl ⟨resOne.cell (j := 1) rfl rfl kd28 rfl rfl rfl, rfl, trivial⟩ KeepR.nil (⟨by rw [simIf, if_neg (by rw [e1]; simp), if_neg (by rw [e2]; simp), if_pos (hinv.1 e3)]; rfl, rfl⟩)
     ·
      skip
      have e3' : ¬ (isB (.mk xk xn xt xks) 1 = true ∧ isB (.mk yk yn yt yks) 0 = true) := fun q => by rw [hinv.2 q] at e3; cases e3
      refine AWP.midE (α := Bool) (fun f4 : Bool => ⟨[(1, .ptr (some b1) 0 0 4), (2, .ptr (some b2) 0 0 4), (4, .ptr (some b4) 0 0 4), (37, bool f4)], [(some b1, ⟨4, [Tr.av (.mk 10 nm t [(.mk ck cn ct cks), (.mk xk xn xt xks), (.mk yk yn yt yks)])]⟩), (some b2, ⟨4, [zero4]⟩), (some b4, ⟨4, [Tr.av (.mk ck cn ct cks)]⟩)]⟩) (fun f4 : Bool => f4 = true ↔ plainX (.mk ck cn ct cks) = true ∧ sameT (.mk xk xn xt xks) (.mk yk yn yt yks) = true) ?_ ?_
      ·
       skip
       refine AWP.prune (tm' := [(1, _), (2, _), (4, _), (23, _)]) ⟨rfl, rfl, rfl, rfl, trivial⟩ ?_
       refine AWP.drawn mixed rfl rfl ?_
       refine D (tm' := [(4, _)]) ⟨rfl, trivial⟩ (DStep.yields (Yields.load_ptr_agg (j := 2) kd28 rfl rfl rfl rfl)) rfl ?_
       refine D (tm' := [(38, _)]) ⟨rfl, trivial⟩ (DStep.callro (splain_AF (.mk ck cn ct cks) hcb) rfl rfl) rfl ?_
       refine D (tm' := [(39, _)]) ⟨rfl, trivial⟩ (DStep.yields (mv rfl)) rfl ?_
       refine DOps.split 2 rfl (fun g1 => ?_) (fun g1 => ?_)
       ·
        skip
        refine DOps.on rfl rfl ?_
        refine D (tm' := [(1, _)]) ⟨rfl, trivial⟩ (DStep.yields (Yields.fieldAddr_ptr fo28_3 rfl)) rfl ?_
        refine DOps.on rfl rfl ?_
        refine D (tm' := [(41, _)]) ⟨rfl, trivial⟩ (DStep.yields (Yields.load_ptr_field (j := 0) kd26 rfl rfl rfl rfl rfl rfl rfl)) rfl ?_
        refine DOps.on rfl rfl ?_
        refine D (tm' := [(42, _)]) ⟨rfl, trivial⟩ (DStep.yields (Yields.idx_roN sl26 rfl rfl rfl (j := 1) rfl (by simp [Tr.avs]))) rfl ?_
        refine DOps.on rfl rfl ?_
        refine D (tm' := [(43, _)]) ⟨rfl, trivial⟩ (DStep.yields (Yields.load_rop_aggV kd28 rfl rfl rfl)) rfl ?_
        refine DOps.on rfl rfl ?_
        refine D (tm' := [(1, _)]) ⟨rfl, trivial⟩ (DStep.yields (Yields.fieldAddr_ptr fo28_3 rfl)) rfl ?_
        refine DOps.on rfl rfl ?_
        refine D (tm' := [(45, _)]) ⟨rfl, trivial⟩ (DStep.yields (Yields.load_ptr_field (j := 0) kd26 rfl rfl rfl rfl rfl rfl rfl)) rfl ?_
        refine DOps.on rfl rfl ?_
        refine D (tm' := [(46, _)]) ⟨rfl, trivial⟩ (DStep.yields (Yields.idx_roN sl26 rfl rfl rfl (j := 2) rfl (by simp [Tr.avs]))) rfl ?_
        refine DOps.on rfl rfl ?_
        refine D (tm' := [(47, _)]) ⟨rfl, trivial⟩ (DStep.yields (Yields.load_rop_aggV kd28 rfl rfl rfl)) rfl ?_
        refine DOps.on rfl rfl ?_
        refine D (tm' := [(44, _), (48, _)]) ⟨rfl, rfl, trivial⟩ (DStep.callro (ssame_AFExpr (.mk xk xn xt xks) (.mk yk yn yt yks) hxb) rfl rfl) rfl ?_
        refine D (tm' := [(40, _), (49, _)]) ⟨rfl, rfl, trivial⟩ (DStep.yields (Yields.pick_true rfl rfl)) rfl ?_
        refine D (tm' := [(50, _)]) ⟨rfl, trivial⟩ (DStep.yields (ass rfl)) rfl ?_
        refine DOps.nil ?_
        refine ⟨sameT (.mk xk xn xt xks) (.mk yk yn yt yks), ?_, ?_⟩
        ·
         show (sameT (.mk xk xn xt xks) (.mk yk yn yt yks)) = true ↔ plainX (.mk ck cn ct cks) = true ∧ sameT (.mk xk xn xt xks) (.mk yk yn yt yks) = true
         simp [g1]
        · exact Leads.keepR (KeepR.cons 0 rfl (KeepR.cons 0 rfl (KeepR.cons 0 rfl KeepR.nil))) ⟨rfl, rfl, rfl, rfl, trivial⟩
       ·
        skip
        refine DOps.off rfl rfl rfl rfl ?_
        refine DOps.off rfl rfl rfl rfl ?_
        refine DOps.off rfl rfl rfl rfl ?_
        refine DOps.off rfl rfl rfl rfl ?_
        refine DOps.off rfl rfl rfl rfl ?_
        refine DOps.off rfl rfl rfl rfl ?_
        refine DOps.off rfl rfl rfl rfl ?_
        refine DOps.off rfl rfl rfl rfl ?_
        refine DOps.off rfl rfl rfl rfl ?_
        refine D (tm' := [(40, _), (49, _)]) ⟨rfl, rfl, trivial⟩ (DStep.yields (Yields.pick_false rfl rfl)) rfl ?_
        refine D (tm' := [(50, _)]) ⟨rfl, trivial⟩ (DStep.yields (ass rfl)) rfl ?_
        refine DOps.nil ?_
        refine ⟨false, ?_, ?_⟩
        ·
         show false = true ↔ plainX (.mk ck cn ct cks) = true ∧ sameT (.mk xk xn xt xks) (.mk yk yn yt yks) = true
         simp [g1]
        · exact Leads.keepR (KeepR.cons 0 rfl (KeepR.cons 0 rfl (KeepR.cons 0 rfl KeepR.nil))) ⟨rfl, rfl, rfl, rfl, trivial⟩
      ·
       rintro f4 hinv
       refine AWP.condT rfl (fun e4 => ?_) (fun e4 => ?_)
       ·
        skip
        refine AWP.seq ?_
        refine AWP.region ?_
        refine Y (Yields.fieldAddr_ptr fo28_3 rfl) rfl ?_
        refine Y (Yields.load_ptr_field (j := 0) kd26 rfl rfl rfl rfl rfl rfl rfl) rfl ?_
        refine Y (Yields.idx_roN sl26 rfl rfl rfl (j := 1) rfl (by simp [Tr.avs])) rfl ?_
        refine Y (Yields.load_rop_aggV kd28 rfl rfl rfl) rfl ?_
        refine AOps.store (j := 1) kd28 rfl rfl rfl rfl rfl rfl ?_
        refine Y (ass rfl) rfl ?_
        refine AOps.nil ?_
        refine AWP.ret ⟨.inl rfl, ?_⟩
        exact RetH.of (rs := [.cell 2 28, .tmp 3]) (vs := [_, _]) rfl ⟨resOne.cell (j := 1) rfl rfl kd28 rfl rfl rfl, rfl, trivial⟩ KeepR.nil (⟨by rw [simIf, if_neg (by rw [e1]; simp), if_neg (by rw [e2]; simp), if_neg e3', if_pos (hinv.1 e4)]; rfl, rfl⟩)
       ·
        skip
        have e4' : ¬ (plainX (.mk ck cn ct cks) = true ∧ sameT (.mk xk xn xt xks) (.mk yk yn yt yks) = true) := fun q => by rw [hinv.2 q] at e4; cases e4
        refine AWP.seq ?_
        refine AWP.region ?_
        refine Y (Yields.fieldAddr_ptr fo28_0 rfl) rfl ?_
        refine Y (Yields.load_ptr_field (j := 2) kd3 rfl rfl rfl rfl rfl rfl rfl) rfl ?_
        refine Y (bn rfl rfl BinR.eql rfl) rfl ?_
        refine Y (ass rfl) rfl ?_
        refine AOps.nil ?_
        refine AWP.condT rfl (fun e5 => ?_) (fun e5 => ?_)
        ·
         replace e5 := eq_of_beq e5
         subst e5
         obtain ⟨zk, zn, zt, zks, rfl⟩ := kids1 hc (.inl rfl)
         refine AWP.seq ?_
         refine AWP.prune (tm' := [(1, _), (2, _), (4, _), (37, _), (55, _)]) ⟨rfl, rfl, rfl, rfl, rfl, trivial⟩ ?_
         refine AWP.drawnM [] [.pure 0, .pure 1, .pure 2, .pure 3, .pure 4, .pure 5, .pure 6, .pure 7, .pure 8, .pure 9, .pure 10, .pure 11, .pure 12, .pure 13, .spine 14 [] [0, 1, 2, 3, 4, 5, 6, 7, 8, 9, 10, 11, 12, 13], .pure 15] mixed rfl rfl rfl rfl rfl ?_
         refine DM.pure (GX (tm' := [(4, _)]) rfl ⟨rfl, trivial⟩ rfl (DStep.yields (Yields.fieldAddr_ptr fo28_3 rfl)) rfl) ?_
         refine DM.pure (GX (tm' := [(59, _)]) rfl ⟨rfl, trivial⟩ rfl (DStep.yields (Yields.load_ptr_field (j := 2) kd26 rfl rfl rfl rfl rfl rfl rfl)) rfl) ?_
         refine DM.pure (GX (tm' := [(60, _)]) rfl ⟨rfl, trivial⟩ rfl (DStep.yields (Yields.idx_roN sl26 rfl rfl rfl (j := 0) rfl (by simp [Tr.avs]))) rfl) ?_
         refine DM.pure (GX (tm' := [(61, _)]) rfl ⟨rfl, trivial⟩ rfl (DStep.yields (Yields.load_rop_aggV kd28 rfl rfl rfl)) rfl) ?_
         refine DM.pure (GX (tm' := [(1, _)]) rfl ⟨rfl, trivial⟩ rfl (DStep.yields (Yields.fieldAddr_ptr fo28_3 rfl)) rfl) ?_
         refine DM.pure (GX (tm' := [(63, _)]) rfl ⟨rfl, trivial⟩ rfl (DStep.yields (Yields.load_ptr_field (j := 0) kd26 rfl rfl rfl rfl rfl rfl rfl)) rfl) ?_
         refine DM.pure (GX (tm' := [(64, _)]) rfl ⟨rfl, trivial⟩ rfl (DStep.yields (Yields.idx_roN sl26 rfl rfl rfl (j := 2) rfl (by simp [Tr.avs]))) rfl) ?_
         refine DM.pure (GX (tm' := [(65, _)]) rfl ⟨rfl, trivial⟩ rfl (DStep.yields (Yields.load_rop_aggV kd28 rfl rfl rfl)) rfl) ?_
         refine DM.pure (GX (tm' := [(1, _)]) rfl ⟨rfl, trivial⟩ rfl (DStep.yields (Yields.fieldAddr_ptr fo28_3 rfl)) rfl) ?_
         refine DM.pure (GX (tm' := [(67, _)]) rfl ⟨rfl, trivial⟩ rfl (DStep.yields (Yields.load_ptr_field (j := 0) kd26 rfl rfl rfl rfl rfl rfl rfl)) rfl) ?_
         refine DM.pure (GX (tm' := [(68, _)]) rfl ⟨rfl, trivial⟩ rfl (DStep.yields (Yields.idx_roN sl26 rfl rfl rfl (j := 1) rfl (by simp [Tr.avs]))) rfl) ?_
         refine DM.pure (GX (tm' := [(69, _)]) rfl ⟨rfl, trivial⟩ rfl (DStep.yields (Yields.load_rop_aggV kd28 rfl rfl rfl)) rfl) ?_
         refine DM.pure (GX (tm' := [(62, _), (66, _), (70, _)]) rfl ⟨rfl, rfl, rfl, trivial⟩ rfl (DStep.buildRo sl26 z28 rfl rfl rfl rfl) rfl) ?_
         refine DM.pure (GX (tm' := [(71, _)]) rfl ⟨rfl, trivial⟩ rfl (DStep.yields (Yields.build pl28 z28 rfl rfl)) rfl) ?_
         refine DM.sp rfl rfl ?_
         refine DOpen.nil fun _ _ _ => ?_
         refine AOps.subT (tm' := [(2, _), (72, _)]) ⟨rfl, rfl, trivial⟩ ?_
         refine AOps.store (j := 1) kd28 rfl rfl rfl rfl rfl rfl ?_
         refine AOps.nil ?_
         refine SpK.mk0 (Stab.all rfl) ?_
         refine DM.pure (GX (tm' := []) rfl trivial rfl (DStep.yields (ass rfl)) rfl) ?_
         refine DM.nil ?_
         refine AWP.ret ⟨.inl rfl, ?_⟩
         exact RetH.of (rs := [.cell 2 28, .tmp 3]) (vs := [_, _]) rfl ⟨resOne.cell (j := 1) rfl rfl kd28 rfl rfl rfl, rfl, trivial⟩ KeepR.nil (⟨by rw [simIf, if_neg (by rw [e1]; simp), if_neg (by rw [e2]; simp), if_neg e3', if_neg e4']; rfl, rfl⟩)
        ·
         replace e5 := ne_of_beq_false e5
         refine AWP.skip ?_
         refine AWP.seq ?_
         refine AWP.region ?_
         refine Y (Yields.load_ptr_agg (j := 0) kd28 rfl rfl rfl rfl) rfl ?_
         refine AOps.store (j := 1) kd28 rfl rfl rfl rfl rfl rfl ?_
         refine Y (ass rfl) rfl ?_
         refine AOps.nil ?_
         refine AWP.ret ⟨.inl rfl, ?_⟩
         exact RetH.of (rs := [.cell 2 28, .tmp 3]) (vs := [_, _]) rfl ⟨resOne.cell (j := 1) rfl rfl kd28 rfl rfl rfl, rfl, trivial⟩ KeepR.nil (⟨by rw [simIf, if_neg (by rw [e1]; simp), if_neg (by rw [e2]; simp), if_neg e3', if_neg e4', if_neg (show ¬ kindOf (.mk ck cn ct cks) = 8 from e5)]; rfl, rfl⟩)
theorem simpleIf_AF (nm : Int) (t : ByteArray) (ck cn : Int) (ct : ByteArray) (cks : List Tr) (xk xn : Int) (xt : ByteArray) (xks : List Tr) (yk yn : Int) (yt : ByteArray) (yks : List Tr) (d : Int) (hcb : Tr.bnd 1000000 (.mk ck cn ct cks)) (hxb : Tr.bnd 1000000 (.mk xk xn xt xks)) (hc : validS (.mk ck cn ct cks) d = true) (hx : validS (.mk xk xn xt xks) d = true) (hyv : yk = 1 → yn = 0 ∨ yn = 1) : Fn 35 [Tr.av (.mk 10 nm t [(.mk ck cn ct cks), (.mk xk xn xt xks), (.mk yk yn yt yks)])] (.tup [(simIf [(.mk ck cn ct cks), (.mk xk xn xt xks), (.mk yk yn yt yks)] (.mk 10 nm t [(.mk ck cn ct cks), (.mk xk xn xt xks), (.mk yk yn yt yks)])).1.av, int (simIf [(.mk ck cn ct cks), (.mk xk xn xt xks), (.mk yk yn yt yks)] (.mk 10 nm t [(.mk ck cn ct cks), (.mk xk xn xt xks), (.mk yk yn yt yks)])).2]) :=
  AH.toF (by simp [plainL, Tr.plain_av]) (simpleIf_AH nm t ck cn ct cks xk xn xt xks yk yn yt yks d hcb hxb hc hx hyv) (fun r hp' h => by obtain ⟨rfl, rfl⟩ := h; exact (Bor.refl (by simp [plainV, plainL, Tr.plain_av])).fz)
theorem ssimpler_AH (k : Tr) (d : Int) (hk : k.bnd 1000000) (hz : sizeT k ≤ 2000000) (hv : validS k d = true) : FnH 26 [] [k.av] (simV (simplerT k)) := by
  obtain ⟨kd, nm, t, ks⟩ := k
  obtain ⟨v1, v2, v3⟩ := validS_inv hv
  obtain ⟨v4, v5, v6⟩ := validS_inv2 hv
  obtain ⟨b1', b2', b3'⟩ := hk
  have hz1 := hz
  rw [sizeT] at hz1
  refine AH.intro Tryz.func26 nm26 rfl rfl rfl fun w0 ok0 own0 => ?_
  refine AWP.seq ?_
  refine AWP.region ?_
  refine AOps.box rfl rfl rfl rfl fun b1 => ?_
  refine AOps.alloc rfl z28 rfl rfl fun b2 => ?_
  refine Y (ass rfl) rfl ?_
  refine AOps.nil ?_
  refine AWP.seq ?_
  refine AWP.seq ?_
  refine AWP.region ?_
  refine Y (Yields.fieldAddr_ptr fo28_0 rfl) rfl ?_
  refine Y (Yields.load_ptr_field (j := 1) kd3 rfl rfl rfl rfl rfl rfl rfl) rfl ?_
  refine AOps.nil ?_
  refine AWP.block ?_
  refine AWP.seq ?_
  refine AWP.region ?_
  refine Y (bn rfl rfl BinR.eql rfl) rfl ?_
  refine Y (ass rfl) rfl ?_
  refine AOps.nil ?_
  refine AWP.condT rfl (fun c8 => ?_) (fun c8 => ?_)
  ·
   replace c8 := eq_of_beq c8
   subst c8
   obtain ⟨ck, cn, ct, cks, rfl⟩ := kids1 hv (.inl rfl)
   have hc := validSs_get (i := 0) v3 rfl
   have hcb := Tr.bnds_get (i := 0) b3' rfl
   have ho := okLit_of hc hcb
   refine AWP.seq ?_
   refine AWP.seq ?_
   refine AWP.region ?_
   refine Y (Yields.fieldAddr_ptr fo28_3 rfl) rfl ?_
   refine Y (Yields.load_ptr_field (j := 1) kd26 rfl rfl rfl rfl rfl rfl rfl) rfl ?_
   refine Y (Yields.idx_roN sl26 rfl rfl rfl (j := 0) rfl (by simp [Tr.avs])) rfl ?_
   refine Y (Yields.fieldAddr_rop fo28_0 rfl) rfl ?_
   refine Y (Yields.load_rop_field kd3 rfl rfl rfl rfl rfl) rfl ?_
   refine Y (bn rfl rfl BinR.eql rfl) rfl ?_
   refine AOps.nil ?_
   refine AWP.condT rfl (fun d1 => ?_) (fun d1 => ?_)
   ·
    replace d1 := eq_of_beq d1
    subst d1
    obtain ⟨xk, xn, xt, xks, rfl⟩ := kids1 hc (.inl rfl)
    refine AWP.seq ?_
    refine AWP.region ?_
    refine Y (Yields.fieldAddr_ptr fo28_3 rfl) rfl ?_
    refine Y (Yields.load_ptr_field (j := 1) kd26 rfl rfl rfl rfl rfl rfl rfl) rfl ?_
    refine Y (Yields.idx_roN sl26 rfl rfl rfl (j := 0) rfl (by simp [Tr.avs])) rfl ?_
    refine Y (Yields.fieldAddr_rop fo28_3 rfl) rfl ?_
    refine Y (Yields.load_rop_field kd26 rfl rfl rfl rfl rfl) rfl ?_
    refine Y (Yields.idx_roN sl26 rfl rfl rfl (j := 0) rfl (by simp [Tr.avs])) rfl ?_
    refine Y (Yields.load_rop_aggV kd28 rfl rfl rfl) rfl ?_
    refine AOps.store (j := 0) kd28 rfl rfl rfl rfl rfl rfl ?_
    refine Y (ass rfl) rfl ?_
    refine AOps.nil ?_
    refine AWP.ret ⟨.inl rfl, ?_⟩
    exact RetH.of (rs := [.cell 2 28, .tmp 3]) (vs := [_, _]) rfl ⟨resOne.cell (j := 0) rfl rfl kd28 rfl rfl rfl, rfl, trivial⟩ KeepR.nil (⟨rfl, rfl⟩)
   ·
    replace d1 := ne_of_beq_false d1
    refine AWP.skip ?_
    refine AWP.seq ?_
    refine AWP.region ?_
    refine Y (Yields.fieldAddr_ptr fo28_3 rfl) rfl ?_
    refine Y (Yields.load_ptr_field (j := 1) kd26 rfl rfl rfl rfl rfl rfl rfl) rfl ?_
    refine Y (Yields.idx_roN sl26 rfl rfl rfl (j := 0) rfl (by simp [Tr.avs])) rfl ?_
    refine Y (Yields.fieldAddr_rop fo28_0 rfl) rfl ?_
    refine Y (Yields.load_rop_field kd3 rfl rfl rfl rfl rfl) rfl ?_
    refine Y (bn rfl rfl BinR.eql rfl) rfl ?_
    refine AOps.nil ?_
    refine AWP.condT rfl (fun d2 => ?_) (fun d2 => ?_)
    ·
     replace d2 := eq_of_beq d2
     subst d2
     have hcn := (ho.2.1 rfl).1
     refine AWP.seq ?_
     refine AWP.region ?_
     refine Y (Yields.fieldAddr_ptr fo28_3 rfl) rfl ?_
     refine Y (Yields.load_ptr_field (j := 1) kd26 rfl rfl rfl rfl rfl rfl rfl) rfl ?_
     refine Y (Yields.idx_roN sl26 rfl rfl rfl (j := 0) rfl (by simp [Tr.avs])) rfl ?_
     refine Y (Yields.fieldAddr_rop fo28_1 rfl) rfl ?_
     refine Y (Yields.load_rop_field kd3 rfl rfl rfl rfl rfl) rfl ?_
     refine Y (bn rfl rfl (BinR.subI (by omega) (by omega)) rfl) rfl ?_
     refine Y (Yields.build pl28 z28 rfl rfl) rfl ?_
     refine AOps.store (j := 0) kd28 rfl rfl rfl rfl rfl rfl ?_
     refine Y (ass rfl) rfl ?_
     refine AOps.nil ?_
     refine AWP.leads (Leads.rowWk 0 0 rfl rfl (wk_leafV _ _ _)) ?_
     refine AWP.ret ⟨.inl rfl, ?_⟩
     exact RetH.of (rs := [.cell 2 28, .tmp 3]) (vs := [_, _]) rfl ⟨resOne.cell (j := 0) rfl rfl kd28 rfl rfl rfl, rfl, trivial⟩ KeepR.nil (⟨rfl, rfl⟩)
    ·
     replace d2 := ne_of_beq_false d2
     refine AWP.skip ?_
     refine AWP.seq ?_
     refine AWP.region ?_
     refine Y (Yields.load_ptr_agg (j := 1) kd28 rfl rfl rfl rfl) rfl ?_
     refine AOps.store (j := 0) kd28 rfl rfl rfl rfl rfl rfl ?_
     refine Y (ass rfl) rfl ?_
     refine AOps.nil ?_
     refine AWP.ret ⟨.inl rfl, ?_⟩
     exact RetH.of (rs := [.cell 2 28, .tmp 3]) (vs := [_, _]) rfl ⟨resOne.cell (j := 0) rfl rfl kd28 rfl rfl rfl, rfl, trivial⟩ KeepR.nil (⟨by rw [sT8, simNot, if_neg d1, if_neg d2]; rfl, rfl⟩)
  ·
   replace c8 := ne_of_beq_false c8
   refine AWP.seq ?_
   refine AWP.region ?_
   refine Y (bn rfl rfl BinR.eql rfl) rfl ?_
   refine Y (ass rfl) rfl ?_
   refine AOps.nil ?_
   refine AWP.condT rfl (fun c10 => ?_) (fun c10 => ?_)
   ·
    replace c10 := eq_of_beq c10
    subst c10
    obtain ⟨ck, cn, ct, cks, xk, xn, xt, xks, yk, yn, yt, yks, rfl⟩ := kids3 hv rfl
    have hyo := okLit_of (validSs_get (i := 2) v3 rfl) (Tr.bnds_get (i := 2) b3' rfl)
    have bF := simpleIf_AF nm t ck cn ct cks xk xn xt xks yk yn yt yks (d - 1) (Tr.bnds_get (i := 0) b3' rfl) (Tr.bnds_get (i := 1) b3' rfl) (validSs_get (i := 0) v3 rfl) (validSs_get (i := 1) v3 rfl) (fun e => (hyo.2.1 e).1)
    refine pairElim (simIf [(.mk ck cn ct cks), (.mk xk xn xt xks), (.mk yk yn yt yks)] (.mk 10 nm t [(.mk ck cn ct cks), (.mk xk xn xt xks), (.mk yk yn yt yks)])) fun zk zn zt zks m hzz => ?_
    rw [hzz] at bF
    refine AWP.seq ?_
    refine AWP.region ?_
    refine Y (Yields.load_ptr_agg (j := 1) kd28 rfl rfl rfl rfl) rfl ?_
    refine AOps.callro (bF) rfl rfl rfl ?_
    refine Y (Yields.extract rfl rfl) rfl ?_
    refine Y (Yields.extract rfl rfl) rfl ?_
    refine AOps.store (j := 0) kd28 rfl rfl rfl rfl rfl rfl ?_
    refine Y (ass rfl) rfl ?_
    refine AOps.nil ?_
    refine AWP.ret ⟨.inl rfl, ?_⟩
    exact RetH.of (rs := [.cell 2 28, .tmp 3]) (vs := [_, _]) rfl ⟨resOne.cell (j := 0) rfl rfl kd28 rfl rfl rfl, rfl, trivial⟩ KeepR.nil (⟨by rw [sT10, hzz]; rfl, rfl⟩)
   ·
    replace c10 := ne_of_beq_false c10
    refine AWP.seq ?_
    refine AWP.region ?_
    refine Y (bn rfl rfl BinR.eql rfl) rfl ?_
    refine Y (ass rfl) rfl ?_
    refine AOps.nil ?_
    refine AWP.condT rfl (fun c9 => ?_) (fun c9 => ?_)
    ·
     replace c9 := eq_of_beq c9
     subst c9
     obtain ⟨ak, an, az, aks, bk, bv, bs, bks, rfl⟩ := kids2 hv (.inl rfl)
     have bF := simpleBin_AF 9 nm t ak an az aks bk bv bs bks (okLit_of (validSs_get (i := 0) v3 rfl) (Tr.bnds_get (i := 0) b3' rfl)) (okLit_of (validSs_get (i := 1) v3 rfl) (Tr.bnds_get (i := 1) b3' rfl))
     refine pairElim (binT t (.mk ak an az aks) (.mk bk bv bs bks) (.mk 9 nm t [.mk ak an az aks, .mk bk bv bs bks])) fun zk zn zt zks m hzz => ?_
     rw [hzz] at bF
     refine AWP.seq ?_
     refine AWP.region ?_
     refine Y (Yields.load_ptr_agg (j := 1) kd28 rfl rfl rfl rfl) rfl ?_
     refine AOps.callro (bF) rfl rfl rfl ?_
     refine Y (Yields.extract rfl rfl) rfl ?_
     refine Y (Yields.extract rfl rfl) rfl ?_
     refine AOps.store (j := 0) kd28 rfl rfl rfl rfl rfl rfl ?_
     refine Y (ass rfl) rfl ?_
     refine AOps.nil ?_
     refine AWP.ret ⟨.inl rfl, ?_⟩
     exact RetH.of (rs := [.cell 2 28, .tmp 3]) (vs := [_, _]) rfl ⟨resOne.cell (j := 0) rfl rfl kd28 rfl rfl rfl, rfl, trivial⟩ KeepR.nil (⟨by rw [sT9, simBin, hzz]; rfl, rfl⟩)
    ·
     replace c9 := ne_of_beq_false c9
     refine AWP.seq ?_
     refine AWP.region ?_
     refine Y (bn rfl rfl BinR.eql rfl) rfl ?_
     refine Y (ass rfl) rfl ?_
     refine AOps.nil ?_
     refine AWP.condT rfl (fun c11 => ?_) (fun c11 => ?_)
     ·
      replace c11 := eq_of_beq c11
      subst c11
      obtain ⟨ck, cn, ct, cks, xk, xn, xt, xks, rfl⟩ := kids2 hv (.inr (.inl rfl))
      have hcb := Tr.bnds_get (i := 0) b3' rfl
      have hxb := Tr.bnds_get (i := 1) b3' rfl
      simp only [sizeTs] at hz1
      have hcp := sizeT_pos (.mk ck cn ct cks)
      refine AWP.seq ?_
      refine AWP.seq ?_
      refine AWP.prune (tm' := [(0, _), (1, _), (2, _), (3, _), (5, _), (6, _), (34, _), (40, _), (46, _)]) ⟨rfl, rfl, rfl, rfl, rfl, rfl, rfl, rfl, rfl, trivial⟩ ?_
      refine AWP.drawn mixed rfl rfl ?_
      refine D (tm' := [(1, _)]) ⟨rfl, trivial⟩ (DStep.yields (Yields.fieldAddr_ptr fo28_3 rfl)) rfl ?_
      refine D (tm' := [(48, _)]) ⟨rfl, trivial⟩ (DStep.yields (Yields.load_ptr_field (j := 1) kd26 rfl rfl rfl rfl rfl rfl rfl)) rfl ?_
      refine D (tm' := [(49, _)]) ⟨rfl, trivial⟩ (DStep.yields (Yields.idx_roN sl26 rfl rfl rfl (j := 1) rfl (by simp [Tr.avs]))) rfl ?_
      refine D (tm' := [(50, _)]) ⟨rfl, trivial⟩ (DStep.yields (Yields.fieldAddr_rop fo28_0 rfl)) rfl ?_
      refine D (tm' := [(51, _)]) ⟨rfl, trivial⟩ (DStep.yields (Yields.load_rop_field kd3 rfl rfl rfl rfl rfl)) rfl ?_
      refine D (tm' := [(52, _)]) ⟨rfl, trivial⟩ (DStep.yields (bn rfl rfl BinR.eql rfl)) rfl ?_
      refine D (tm' := [(53, _)]) ⟨rfl, trivial⟩ (DStep.yields (mv rfl)) rfl ?_
      refine DOps.split 6 rfl (fun g1 => ?_) (fun g1 => ?_)
      ·
       replace g1 := eq_of_beq g1
       refine DOps.on rfl rfl ?_
       refine D (tm' := [(1, _)]) ⟨rfl, trivial⟩ (DStep.yields (Yields.fieldAddr_ptr fo28_3 rfl)) rfl ?_
       refine DOps.on rfl rfl ?_
       refine D (tm' := [(55, _)]) ⟨rfl, trivial⟩ (DStep.yields (Yields.load_ptr_field (j := 1) kd26 rfl rfl rfl rfl rfl rfl rfl)) rfl ?_
       refine DOps.on rfl rfl ?_
       refine D (tm' := [(56, _)]) ⟨rfl, trivial⟩ (DStep.yields (Yields.idx_roN sl26 rfl rfl rfl (j := 1) rfl (by simp [Tr.avs]))) rfl ?_
       refine DOps.on rfl rfl ?_
       refine D (tm' := [(57, _)]) ⟨rfl, trivial⟩ (DStep.yields (Yields.fieldAddr_rop fo28_2 rfl)) rfl ?_
       refine DOps.on rfl rfl ?_
       refine D (tm' := [(58, _)]) ⟨rfl, trivial⟩ (DStep.yields (Yields.load_rop_field kd9 rfl rfl rfl rfl rfl)) rfl ?_
       refine DOps.on rfl rfl ?_
       refine D (tm' := [(1, _)]) ⟨rfl, trivial⟩ (DStep.yields (Yields.fieldAddr_ptr fo28_2 rfl)) rfl ?_
       refine DOps.on rfl rfl ?_
       refine D (tm' := [(60, _)]) ⟨rfl, trivial⟩ (DStep.yields (Yields.load_ptr_field (j := 1) kd9 rfl rfl rfl rfl rfl rfl rfl)) rfl ?_
       refine DOps.on rfl rfl ?_
       refine D (tm' := [(59, _), (61, _)]) ⟨rfl, rfl, trivial⟩ (DStep.yields (bn rfl rfl BinR.seql rfl)) rfl ?_
       refine D (tm' := [(54, _), (62, _)]) ⟨rfl, rfl, trivial⟩ (DStep.yields (Yields.pick_true rfl rfl)) rfl ?_
       refine DOps.nil ?_
       refine AWP.condT rfl (fun g2 => ?_) (fun g2 => ?_)
       ·
        replace g2 := of_decide_eq_true g2
        refine AWP.seq ?_
        refine AWP.region ?_
        refine Y (Yields.fieldAddr_ptr fo28_3 rfl) rfl ?_
        refine Y (Yields.load_ptr_field (j := 1) kd26 rfl rfl rfl rfl rfl rfl rfl) rfl ?_
        refine Y (Yields.idx_roN sl26 rfl rfl rfl (j := 0) rfl (by simp [Tr.avs])) rfl ?_
        refine Y (Yields.load_rop_aggV kd28 rfl rfl rfl) rfl ?_
        refine AOps.store (j := 0) kd28 rfl rfl rfl rfl rfl rfl ?_
        refine Y (ass rfl) rfl ?_
        refine AOps.nil ?_
        refine AWP.ret ⟨.inl rfl, ?_⟩
        exact RetH.of (rs := [.cell 2 28, .tmp 3]) (vs := [_, _]) rfl ⟨resOne.cell (j := 0) rfl rfl kd28 rfl rfl rfl, rfl, trivial⟩ KeepR.nil (⟨by rw [sT11, simLet, if_pos ⟨g1, g2⟩]; rfl, rfl⟩)
       ·
        replace g2 := of_decide_eq_false g2
        refine AWP.skip ?_
        refine AWP.seq ?_
        refine AWP.prune (tm' := [(0, _), (1, _), (2, _), (3, _), (5, _), (6, _), (34, _), (40, _), (46, _), (63, _)]) ⟨rfl, rfl, rfl, rfl, rfl, rfl, rfl, rfl, rfl, rfl, trivial⟩ ?_
        refine AWP.drawn mixed rfl rfl ?_
        refine D (tm' := [(1, _)]) ⟨rfl, trivial⟩ (DStep.yields (Yields.fieldAddr_ptr fo28_3 rfl)) rfl ?_
        refine D (tm' := [(68, _)]) ⟨rfl, trivial⟩ (DStep.yields (Yields.load_ptr_field (j := 1) kd26 rfl rfl rfl rfl rfl rfl rfl)) rfl ?_
        refine D (tm' := [(69, _)]) ⟨rfl, trivial⟩ (DStep.yields (Yields.idx_roN sl26 rfl rfl rfl (j := 0) rfl (by simp [Tr.avs]))) rfl ?_
        refine D (tm' := [(70, _)]) ⟨rfl, trivial⟩ (DStep.yields (Yields.load_rop_aggV kd28 rfl rfl rfl)) rfl ?_
        refine D (tm' := [(71, _)]) ⟨rfl, trivial⟩ (DStep.callro (splain_AF (.mk ck cn ct cks) hcb) rfl rfl) rfl ?_
        refine D (tm' := [(72, _)]) ⟨rfl, trivial⟩ (DStep.yields (mv rfl)) rfl ?_
        refine DOps.split 5 rfl (fun g3 => ?_) (fun g3 => ?_)
        ·
         skip
         refine DOps.on rfl rfl ?_
         refine D (tm' := [(1, _)]) ⟨rfl, trivial⟩ (DStep.yields (Yields.fieldAddr_ptr fo28_3 rfl)) rfl ?_
         refine DOps.on rfl rfl ?_
         refine D (tm' := [(74, _)]) ⟨rfl, trivial⟩ (DStep.yields (Yields.load_ptr_field (j := 1) kd26 rfl rfl rfl rfl rfl rfl rfl)) rfl ?_
         refine DOps.on rfl rfl ?_
         refine D (tm' := [(75, _)]) ⟨rfl, trivial⟩ (DStep.yields (Yields.idx_roN sl26 rfl rfl rfl (j := 1) rfl (by simp [Tr.avs]))) rfl ?_
         refine DOps.on rfl rfl ?_
         refine D (tm' := [(76, _)]) ⟨rfl, trivial⟩ (DStep.yields (Yields.load_rop_aggV kd28 rfl rfl rfl)) rfl ?_
         refine DOps.on rfl rfl ?_
         refine D (tm' := [(77, _)]) ⟨rfl, trivial⟩ (DStep.callro (sfreeR_AF (.mk xk xn xt xks) hxb (by omega)) rfl rfl) rfl ?_
         refine DOps.on rfl rfl ?_
         refine D (tm' := [(1, _)]) ⟨rfl, trivial⟩ (DStep.yields (Yields.fieldAddr_ptr fo28_2 rfl)) rfl ?_
         refine DOps.on rfl rfl ?_
         refine D (tm' := [(79, _)]) ⟨rfl, trivial⟩ (DStep.yields (Yields.load_ptr_field (j := 1) kd9 rfl rfl rfl rfl rfl rfl rfl)) rfl ?_
         refine DOps.on rfl rfl ?_
         refine D (tm' := [(78, _), (80, _)]) ⟨rfl, rfl, trivial⟩ (DStep.callro (inTexts_AF (freeT (.mk xk xn xt xks)) [] false t (by have := freeT_length (.mk xk xn xt xks); omega)) rfl rfl) rfl ?_
         refine DOps.on rfl rfl ?_
         refine D (tm' := [(81, _)]) ⟨rfl, trivial⟩ (DStep.yields (Yields.not rfl)) rfl ?_
         refine D (tm' := [(73, _), (82, _)]) ⟨rfl, rfl, trivial⟩ (DStep.yields (Yields.pick_true rfl rfl)) rfl ?_
         refine DOps.nil ?_
         refine AWP.condT rfl (fun g4 => ?_) (fun g4 => ?_)
         ·
          skip
          refine AWP.seq ?_
          refine AWP.region ?_
          refine Y (Yields.fieldAddr_ptr fo28_3 rfl) rfl ?_
          refine Y (Yields.load_ptr_field (j := 1) kd26 rfl rfl rfl rfl rfl rfl rfl) rfl ?_
          refine Y (Yields.idx_roN sl26 rfl rfl rfl (j := 1) rfl (by simp [Tr.avs])) rfl ?_
          refine Y (Yields.load_rop_aggV kd28 rfl rfl rfl) rfl ?_
          refine AOps.store (j := 0) kd28 rfl rfl rfl rfl rfl rfl ?_
          refine Y (ass rfl) rfl ?_
          refine AOps.nil ?_
          refine AWP.ret ⟨.inl rfl, ?_⟩
          exact RetH.of (rs := [.cell 2 28, .tmp 3]) (vs := [_, _]) rfl ⟨resOne.cell (j := 0) rfl rfl kd28 rfl rfl rfl, rfl, trivial⟩ KeepR.nil (⟨by rw [sT11, simLet, if_neg (fun q => g2 q.2), if_pos ⟨g3, by simpa using g4⟩]; rfl, rfl⟩)
         ·
          skip
          refine AWP.skip ?_
          refine AWP.seq ?_
          refine AWP.region ?_
          refine Y (Yields.load_ptr_agg (j := 1) kd28 rfl rfl rfl rfl) rfl ?_
          refine AOps.store (j := 0) kd28 rfl rfl rfl rfl rfl rfl ?_
          refine Y (ass rfl) rfl ?_
          refine AOps.nil ?_
          refine AWP.ret ⟨.inl rfl, ?_⟩
          exact RetH.of (rs := [.cell 2 28, .tmp 3]) (vs := [_, _]) rfl ⟨resOne.cell (j := 0) rfl rfl kd28 rfl rfl rfl, rfl, trivial⟩ KeepR.nil (⟨by rw [sT11, simLet, if_neg (fun q => g2 q.2), if_neg (fun q => by rw [q.2] at g4; cases g4)]; rfl, rfl⟩)
        ·
         skip
         refine DOps.off rfl rfl rfl rfl ?_
         refine DOps.off rfl rfl rfl rfl ?_
         refine DOps.off rfl rfl rfl rfl ?_
         refine DOps.off rfl rfl rfl rfl ?_
         refine DOps.off rfl rfl rfl rfl ?_
         refine DOps.off rfl rfl rfl rfl ?_
         refine DOps.off rfl rfl rfl rfl ?_
         refine DOps.off rfl rfl rfl rfl ?_
         refine DOps.off rfl rfl rfl rfl ?_
         refine D (tm' := [(73, _), (82, _)]) ⟨rfl, rfl, trivial⟩ (DStep.yields (Yields.pick_false rfl rfl)) rfl ?_
         refine DOps.nil ?_
         refine AWP.cond rfl (fun h => absurd h (by decide)) (fun _ => ?_)
         refine AWP.skip ?_
         refine AWP.seq ?_
         refine AWP.region ?_
         refine Y (Yields.load_ptr_agg (j := 1) kd28 rfl rfl rfl rfl) rfl ?_
         refine AOps.store (j := 0) kd28 rfl rfl rfl rfl rfl rfl ?_
         refine Y (ass rfl) rfl ?_
         refine AOps.nil ?_
         refine AWP.ret ⟨.inl rfl, ?_⟩
         exact RetH.of (rs := [.cell 2 28, .tmp 3]) (vs := [_, _]) rfl ⟨resOne.cell (j := 0) rfl rfl kd28 rfl rfl rfl, rfl, trivial⟩ KeepR.nil (⟨by rw [sT11, simLet, if_neg (fun q => g2 q.2), if_neg (fun q => by rw [q.1] at g3; cases g3)]; rfl, rfl⟩)
      ·
       replace g1 := ne_of_beq_false g1
       refine DOps.off rfl rfl rfl rfl ?_
       refine DOps.off rfl rfl rfl rfl ?_
       refine DOps.off rfl rfl rfl rfl ?_
       refine DOps.off rfl rfl rfl rfl ?_
       refine DOps.off rfl rfl rfl rfl ?_
       refine DOps.off rfl rfl rfl rfl ?_
       refine DOps.off rfl rfl rfl rfl ?_
       refine DOps.off rfl rfl rfl rfl ?_
       refine D (tm' := [(54, _), (62, _)]) ⟨rfl, rfl, trivial⟩ (DStep.yields (Yields.pick_false rfl rfl)) rfl ?_
       refine DOps.nil ?_
       refine AWP.cond rfl (fun h => absurd h (by decide)) (fun _ => ?_)
       refine AWP.skip ?_
       refine AWP.seq ?_
       refine AWP.prune (tm' := [(0, _), (1, _), (2, _), (3, _), (5, _), (6, _), (34, _), (40, _), (46, _), (63, _)]) ⟨rfl, rfl, rfl, rfl, rfl, rfl, rfl, rfl, rfl, rfl, trivial⟩ ?_
       refine AWP.drawn mixed rfl rfl ?_
       refine D (tm' := [(1, _)]) ⟨rfl, trivial⟩ (DStep.yields (Yields.fieldAddr_ptr fo28_3 rfl)) rfl ?_
       refine D (tm' := [(68, _)]) ⟨rfl, trivial⟩ (DStep.yields (Yields.load_ptr_field (j := 1) kd26 rfl rfl rfl rfl rfl rfl rfl)) rfl ?_
       refine D (tm' := [(69, _)]) ⟨rfl, trivial⟩ (DStep.yields (Yields.idx_roN sl26 rfl rfl rfl (j := 0) rfl (by simp [Tr.avs]))) rfl ?_
       refine D (tm' := [(70, _)]) ⟨rfl, trivial⟩ (DStep.yields (Yields.load_rop_aggV kd28 rfl rfl rfl)) rfl ?_
       refine D (tm' := [(71, _)]) ⟨rfl, trivial⟩ (DStep.callro (splain_AF (.mk ck cn ct cks) hcb) rfl rfl) rfl ?_
       refine D (tm' := [(72, _)]) ⟨rfl, trivial⟩ (DStep.yields (mv rfl)) rfl ?_
       refine DOps.split 5 rfl (fun g3 => ?_) (fun g3 => ?_)
       ·
        skip
        refine DOps.on rfl rfl ?_
        refine D (tm' := [(1, _)]) ⟨rfl, trivial⟩ (DStep.yields (Yields.fieldAddr_ptr fo28_3 rfl)) rfl ?_
        refine DOps.on rfl rfl ?_
        refine D (tm' := [(74, _)]) ⟨rfl, trivial⟩ (DStep.yields (Yields.load_ptr_field (j := 1) kd26 rfl rfl rfl rfl rfl rfl rfl)) rfl ?_
        refine DOps.on rfl rfl ?_
        refine D (tm' := [(75, _)]) ⟨rfl, trivial⟩ (DStep.yields (Yields.idx_roN sl26 rfl rfl rfl (j := 1) rfl (by simp [Tr.avs]))) rfl ?_
        refine DOps.on rfl rfl ?_
        refine D (tm' := [(76, _)]) ⟨rfl, trivial⟩ (DStep.yields (Yields.load_rop_aggV kd28 rfl rfl rfl)) rfl ?_
        refine DOps.on rfl rfl ?_
        refine D (tm' := [(77, _)]) ⟨rfl, trivial⟩ (DStep.callro (sfreeR_AF (.mk xk xn xt xks) hxb (by omega)) rfl rfl) rfl ?_
        refine DOps.on rfl rfl ?_
        refine D (tm' := [(1, _)]) ⟨rfl, trivial⟩ (DStep.yields (Yields.fieldAddr_ptr fo28_2 rfl)) rfl ?_
        refine DOps.on rfl rfl ?_
        refine D (tm' := [(79, _)]) ⟨rfl, trivial⟩ (DStep.yields (Yields.load_ptr_field (j := 1) kd9 rfl rfl rfl rfl rfl rfl rfl)) rfl ?_
        refine DOps.on rfl rfl ?_
        refine D (tm' := [(78, _), (80, _)]) ⟨rfl, rfl, trivial⟩ (DStep.callro (inTexts_AF (freeT (.mk xk xn xt xks)) [] false t (by have := freeT_length (.mk xk xn xt xks); omega)) rfl rfl) rfl ?_
        refine DOps.on rfl rfl ?_
        refine D (tm' := [(81, _)]) ⟨rfl, trivial⟩ (DStep.yields (Yields.not rfl)) rfl ?_
        refine D (tm' := [(73, _), (82, _)]) ⟨rfl, rfl, trivial⟩ (DStep.yields (Yields.pick_true rfl rfl)) rfl ?_
        refine DOps.nil ?_
        refine AWP.condT rfl (fun g4 => ?_) (fun g4 => ?_)
        ·
         skip
         refine AWP.seq ?_
         refine AWP.region ?_
         refine Y (Yields.fieldAddr_ptr fo28_3 rfl) rfl ?_
         refine Y (Yields.load_ptr_field (j := 1) kd26 rfl rfl rfl rfl rfl rfl rfl) rfl ?_
         refine Y (Yields.idx_roN sl26 rfl rfl rfl (j := 1) rfl (by simp [Tr.avs])) rfl ?_
         refine Y (Yields.load_rop_aggV kd28 rfl rfl rfl) rfl ?_
         refine AOps.store (j := 0) kd28 rfl rfl rfl rfl rfl rfl ?_
         refine Y (ass rfl) rfl ?_
         refine AOps.nil ?_
         refine AWP.ret ⟨.inl rfl, ?_⟩
         exact RetH.of (rs := [.cell 2 28, .tmp 3]) (vs := [_, _]) rfl ⟨resOne.cell (j := 0) rfl rfl kd28 rfl rfl rfl, rfl, trivial⟩ KeepR.nil (⟨by rw [sT11, simLet, if_neg (fun q => g1 q.1), if_pos ⟨g3, by simpa using g4⟩]; rfl, rfl⟩)
        ·
         skip
         refine AWP.skip ?_
         refine AWP.seq ?_
         refine AWP.region ?_
         refine Y (Yields.load_ptr_agg (j := 1) kd28 rfl rfl rfl rfl) rfl ?_
         refine AOps.store (j := 0) kd28 rfl rfl rfl rfl rfl rfl ?_
         refine Y (ass rfl) rfl ?_
         refine AOps.nil ?_
         refine AWP.ret ⟨.inl rfl, ?_⟩
         exact RetH.of (rs := [.cell 2 28, .tmp 3]) (vs := [_, _]) rfl ⟨resOne.cell (j := 0) rfl rfl kd28 rfl rfl rfl, rfl, trivial⟩ KeepR.nil (⟨by rw [sT11, simLet, if_neg (fun q => g1 q.1), if_neg (fun q => by rw [q.2] at g4; cases g4)]; rfl, rfl⟩)
       ·
        skip
        refine DOps.off rfl rfl rfl rfl ?_
        refine DOps.off rfl rfl rfl rfl ?_
        refine DOps.off rfl rfl rfl rfl ?_
        refine DOps.off rfl rfl rfl rfl ?_
        refine DOps.off rfl rfl rfl rfl ?_
        refine DOps.off rfl rfl rfl rfl ?_
        refine DOps.off rfl rfl rfl rfl ?_
        refine DOps.off rfl rfl rfl rfl ?_
        refine DOps.off rfl rfl rfl rfl ?_
        refine D (tm' := [(73, _), (82, _)]) ⟨rfl, rfl, trivial⟩ (DStep.yields (Yields.pick_false rfl rfl)) rfl ?_
        refine DOps.nil ?_
        refine AWP.cond rfl (fun h => absurd h (by decide)) (fun _ => ?_)
        refine AWP.skip ?_
        refine AWP.seq ?_
        refine AWP.region ?_
        refine Y (Yields.load_ptr_agg (j := 1) kd28 rfl rfl rfl rfl) rfl ?_
        refine AOps.store (j := 0) kd28 rfl rfl rfl rfl rfl rfl ?_
        refine Y (ass rfl) rfl ?_
        refine AOps.nil ?_
        refine AWP.ret ⟨.inl rfl, ?_⟩
        exact RetH.of (rs := [.cell 2 28, .tmp 3]) (vs := [_, _]) rfl ⟨resOne.cell (j := 0) rfl rfl kd28 rfl rfl rfl, rfl, trivial⟩ KeepR.nil (⟨by rw [sT11, simLet, if_neg (fun q => g1 q.1), if_neg (fun q => by rw [q.1] at g3; cases g3)]; rfl, rfl⟩)
     ·
      replace c11 := ne_of_beq_false c11
      refine AWP.seq ?_
      refine AWP.region ?_
      refine Y (bn rfl rfl BinR.eql rfl) rfl ?_
      refine Y (ass rfl) rfl ?_
      refine AOps.nil ?_
      refine AWP.condT rfl (fun c12 => ?_) (fun c12 => ?_)
      ·
       replace c12 := eq_of_beq c12
       subst c12
       obtain ⟨ck, cn, ct, cks, xk, xn, xt, xks, rfl⟩ := kids2 hv (.inr (.inr rfl))
       refine AWP.seq ?_
       refine AWP.prune (tm' := [(0, _), (1, _), (2, _), (3, _), (5, _), (6, _), (34, _), (40, _), (46, _), (88, _)]) ⟨rfl, rfl, rfl, rfl, rfl, rfl, rfl, rfl, rfl, rfl, trivial⟩ ?_
       refine AWP.drawn mixed rfl rfl ?_
       refine D (tm' := [(1, _)]) ⟨rfl, trivial⟩ (DStep.yields (Yields.fieldAddr_ptr fo28_3 rfl)) rfl ?_
       refine D (tm' := [(90, _)]) ⟨rfl, trivial⟩ (DStep.yields (Yields.load_ptr_field (j := 1) kd26 rfl rfl rfl rfl rfl rfl rfl)) rfl ?_
       refine D (tm' := [(91, _)]) ⟨rfl, trivial⟩ (DStep.yields (Yields.idx_roN sl26 rfl rfl rfl (j := 1) rfl (by simp [Tr.avs]))) rfl ?_
       refine D (tm' := [(92, _)]) ⟨rfl, trivial⟩ (DStep.yields (Yields.fieldAddr_rop fo28_0 rfl)) rfl ?_
       refine D (tm' := [(93, _)]) ⟨rfl, trivial⟩ (DStep.yields (Yields.load_rop_field kd3 rfl rfl rfl rfl rfl)) rfl ?_
       refine D (tm' := [(94, _)]) ⟨rfl, trivial⟩ (DStep.yields (bn rfl rfl BinR.eql rfl)) rfl ?_
       refine D (tm' := [(95, _)]) ⟨rfl, trivial⟩ (DStep.yields (mv rfl)) rfl ?_
       refine DOps.split 6 rfl (fun g1 => ?_) (fun g1 => ?_)
       ·
        replace g1 := eq_of_beq g1
        refine DOps.on rfl rfl ?_
        refine D (tm' := [(1, _)]) ⟨rfl, trivial⟩ (DStep.yields (Yields.fieldAddr_ptr fo28_3 rfl)) rfl ?_
        refine DOps.on rfl rfl ?_
        refine D (tm' := [(97, _)]) ⟨rfl, trivial⟩ (DStep.yields (Yields.load_ptr_field (j := 1) kd26 rfl rfl rfl rfl rfl rfl rfl)) rfl ?_
        refine DOps.on rfl rfl ?_
        refine D (tm' := [(98, _)]) ⟨rfl, trivial⟩ (DStep.yields (Yields.idx_roN sl26 rfl rfl rfl (j := 1) rfl (by simp [Tr.avs]))) rfl ?_
        refine DOps.on rfl rfl ?_
        refine D (tm' := [(99, _)]) ⟨rfl, trivial⟩ (DStep.yields (Yields.fieldAddr_rop fo28_2 rfl)) rfl ?_
        refine DOps.on rfl rfl ?_
        refine D (tm' := [(100, _)]) ⟨rfl, trivial⟩ (DStep.yields (Yields.load_rop_field kd9 rfl rfl rfl rfl rfl)) rfl ?_
        refine DOps.on rfl rfl ?_
        refine D (tm' := [(1, _)]) ⟨rfl, trivial⟩ (DStep.yields (Yields.fieldAddr_ptr fo28_2 rfl)) rfl ?_
        refine DOps.on rfl rfl ?_
        refine D (tm' := [(102, _)]) ⟨rfl, trivial⟩ (DStep.yields (Yields.load_ptr_field (j := 1) kd9 rfl rfl rfl rfl rfl rfl rfl)) rfl ?_
        refine DOps.on rfl rfl ?_
        refine D (tm' := [(101, _), (103, _)]) ⟨rfl, rfl, trivial⟩ (DStep.yields (bn rfl rfl BinR.seql rfl)) rfl ?_
        refine D (tm' := [(96, _), (104, _)]) ⟨rfl, rfl, trivial⟩ (DStep.yields (Yields.pick_true rfl rfl)) rfl ?_
        refine DOps.nil ?_
        refine AWP.condT rfl (fun g2 => ?_) (fun g2 => ?_)
        ·
         replace g2 := of_decide_eq_true g2
         refine AWP.seq ?_
         refine AWP.region ?_
         refine Y (Yields.fieldAddr_ptr fo28_3 rfl) rfl ?_
         refine Y (Yields.load_ptr_field (j := 1) kd26 rfl rfl rfl rfl rfl rfl rfl) rfl ?_
         refine Y (Yields.idx_roN sl26 rfl rfl rfl (j := 0) rfl (by simp [Tr.avs])) rfl ?_
         refine Y (Yields.load_rop_aggV kd28 rfl rfl rfl) rfl ?_
         refine AOps.store (j := 0) kd28 rfl rfl rfl rfl rfl rfl ?_
         refine Y (ass rfl) rfl ?_
         refine AOps.nil ?_
         refine AWP.ret ⟨.inl rfl, ?_⟩
         exact RetH.of (rs := [.cell 2 28, .tmp 3]) (vs := [_, _]) rfl ⟨resOne.cell (j := 0) rfl rfl kd28 rfl rfl rfl, rfl, trivial⟩ KeepR.nil (⟨by rw [sT12, simFor, if_pos ⟨g1, g2⟩]; rfl, rfl⟩)
        ·
         replace g2 := of_decide_eq_false g2
         refine AWP.skip ?_
         refine AWP.seq ?_
         refine AWP.region ?_
         refine Y (Yields.load_ptr_agg (j := 1) kd28 rfl rfl rfl rfl) rfl ?_
         refine AOps.store (j := 0) kd28 rfl rfl rfl rfl rfl rfl ?_
         refine Y (ass rfl) rfl ?_
         refine AOps.nil ?_
         refine AWP.ret ⟨.inl rfl, ?_⟩
         exact RetH.of (rs := [.cell 2 28, .tmp 3]) (vs := [_, _]) rfl ⟨resOne.cell (j := 0) rfl rfl kd28 rfl rfl rfl, rfl, trivial⟩ KeepR.nil (⟨by rw [sT12, simFor, if_neg (fun q => g2 q.2)]; rfl, rfl⟩)
       ·
        replace g1 := ne_of_beq_false g1
        refine DOps.off rfl rfl rfl rfl ?_
        refine DOps.off rfl rfl rfl rfl ?_
        refine DOps.off rfl rfl rfl rfl ?_
        refine DOps.off rfl rfl rfl rfl ?_
        refine DOps.off rfl rfl rfl rfl ?_
        refine DOps.off rfl rfl rfl rfl ?_
        refine DOps.off rfl rfl rfl rfl ?_
        refine DOps.off rfl rfl rfl rfl ?_
        refine D (tm' := [(96, _), (104, _)]) ⟨rfl, rfl, trivial⟩ (DStep.yields (Yields.pick_false rfl rfl)) rfl ?_
        refine DOps.nil ?_
        refine AWP.cond rfl (fun h => absurd h (by decide)) (fun _ => ?_)
        refine AWP.skip ?_
        refine AWP.seq ?_
        refine AWP.region ?_
        refine Y (Yields.load_ptr_agg (j := 1) kd28 rfl rfl rfl rfl) rfl ?_
        refine AOps.store (j := 0) kd28 rfl rfl rfl rfl rfl rfl ?_
        refine Y (ass rfl) rfl ?_
        refine AOps.nil ?_
        refine AWP.ret ⟨.inl rfl, ?_⟩
        exact RetH.of (rs := [.cell 2 28, .tmp 3]) (vs := [_, _]) rfl ⟨resOne.cell (j := 0) rfl rfl kd28 rfl rfl rfl, rfl, trivial⟩ KeepR.nil (⟨by rw [sT12, simFor, if_neg (fun q => g1 q.1)]; rfl, rfl⟩)
      ·
       replace c12 := ne_of_beq_false c12
       refine AWP.seq ?_
       refine AWP.region ?_
       refine Y (bn rfl rfl BinR.eql rfl) rfl ?_
       refine Y (ass rfl) rfl ?_
       refine AOps.nil ?_
       refine AWP.condT rfl (fun c13 => ?_) (fun c13 => ?_)
       ·
        replace c13 := eq_of_beq c13
        subst c13
        obtain ⟨ck, cn, ct, cks, rfl⟩ := kids1 hv (.inr rfl)
        have hcb := Tr.bnds_get (i := 0) b3' rfl
        have hlk := Tr.avs_length cks
        refine AWP.seq ?_
        refine AWP.region ?_
        refine Y (Yields.fieldAddr_ptr fo28_3 rfl) rfl ?_
        refine Y (Yields.load_ptr_field (j := 1) kd26 rfl rfl rfl rfl rfl rfl rfl) rfl ?_
        refine Y (Yields.idx_roN sl26 rfl rfl rfl (j := 0) rfl (by simp [Tr.avs])) rfl ?_
        refine Y (Yields.fieldAddr_rop fo28_0 rfl) rfl ?_
        refine Y (Yields.load_rop_field kd3 rfl rfl rfl rfl rfl) rfl ?_
        refine Y (bn rfl rfl BinR.eql rfl) rfl ?_
        refine Y (mv rfl) rfl ?_
        refine AOps.split 118 rfl (fun g1 => ?_) (fun g1 => ?_)
        ·
         replace g1 := eq_of_beq g1
         refine AOps.on rfl rfl ?_
         refine Y (Yields.fieldAddr_ptr fo28_3 rfl) rfl ?_
         refine AOps.on rfl rfl ?_
         refine Y (Yields.load_ptr_field (j := 1) kd26 rfl rfl rfl rfl rfl rfl rfl) rfl ?_
         refine AOps.on rfl rfl ?_
         refine Y (Yields.idx_roN sl26 rfl rfl rfl (j := 0) rfl (by simp [Tr.avs])) rfl ?_
         refine AOps.on rfl rfl ?_
         refine Y (Yields.load_rop_aggV kd28 rfl rfl rfl) rfl ?_
         refine AOps.on rfl rfl ?_
         refine AOps.callro (splain_AF (.mk ck cn ct cks) hcb) rfl rfl rfl ?_
         refine Y (Yields.pick_true rfl rfl) rfl ?_
         refine AOps.nil ?_
         refine AWP.condT rfl (fun g2 => ?_) (fun g2 => ?_)
         ·
          skip
          refine AWP.seq ?_
          refine AWP.region ?_
          refine Y (Yields.fieldAddr_ptr fo28_3 rfl) rfl ?_
          refine Y (Yields.load_ptr_field (j := 1) kd26 rfl rfl rfl rfl rfl rfl rfl) rfl ?_
          refine Y (Yields.idx_roN sl26 rfl rfl rfl (j := 0) rfl (by simp [Tr.avs])) rfl ?_
          refine Y (Yields.fieldAddr_rop fo28_3 rfl) rfl ?_
          refine Y (Yields.load_rop_field kd26 rfl rfl rfl rfl rfl) rfl ?_
          refine Y (Yields.len_ro sl26 rfl) rfl ?_
          refine Y (Yields.build pl28 z28 rfl rfl) rfl ?_
          refine AOps.store (j := 0) kd28 rfl rfl rfl rfl rfl rfl ?_
          refine Y (ass rfl) rfl ?_
          refine AOps.nil ?_
          refine AWP.leads (Leads.rowWk 0 0 rfl rfl (wk_leafV _ _ _)) ?_
          refine AWP.ret ⟨.inl rfl, ?_⟩
          exact RetH.of (rs := [.cell 2 28, .tmp 3]) (vs := [_, _]) rfl ⟨resOne.cell (j := 0) rfl rfl kd28 rfl rfl rfl, rfl, trivial⟩ KeepR.nil (⟨by rw [sT13, simSize, if_pos ⟨g1, g2⟩, hlk]; rfl, rfl⟩)
         ·
          skip
          refine AWP.skip ?_
          refine AWP.seq ?_
          refine AWP.region ?_
          refine Y (Yields.load_ptr_agg (j := 1) kd28 rfl rfl rfl rfl) rfl ?_
          refine AOps.store (j := 0) kd28 rfl rfl rfl rfl rfl rfl ?_
          refine Y (ass rfl) rfl ?_
          refine AOps.nil ?_
          refine AWP.ret ⟨.inl rfl, ?_⟩
          exact RetH.of (rs := [.cell 2 28, .tmp 3]) (vs := [_, _]) rfl ⟨resOne.cell (j := 0) rfl rfl kd28 rfl rfl rfl, rfl, trivial⟩ KeepR.nil (⟨by rw [sT13, simSize, if_neg (fun q => by rw [q.2] at g2; cases g2)]; rfl, rfl⟩)
        ·
         replace g1 := ne_of_beq_false g1
         refine AOps.off' rfl rfl rfl rfl ?_
         refine AOps.off' rfl rfl rfl rfl ?_
         refine AOps.off' rfl rfl rfl rfl ?_
         refine AOps.off' rfl rfl rfl rfl ?_
         refine AOps.off' rfl rfl rfl rfl ?_
         refine Y (Yields.pick_false rfl rfl) rfl ?_
         refine AOps.nil ?_
         refine AWP.cond rfl (fun h => absurd h (by decide)) (fun _ => ?_)
         refine AWP.skip ?_
         refine AWP.seq ?_
         refine AWP.region ?_
         refine Y (Yields.load_ptr_agg (j := 1) kd28 rfl rfl rfl rfl) rfl ?_
         refine AOps.store (j := 0) kd28 rfl rfl rfl rfl rfl rfl ?_
         refine Y (ass rfl) rfl ?_
         refine AOps.nil ?_
         refine AWP.ret ⟨.inl rfl, ?_⟩
         exact RetH.of (rs := [.cell 2 28, .tmp 3]) (vs := [_, _]) rfl ⟨resOne.cell (j := 0) rfl rfl kd28 rfl rfl rfl, rfl, trivial⟩ KeepR.nil (⟨by rw [sT13, simSize, if_neg (fun q => g1 q.1)]; rfl, rfl⟩)
       ·
        replace c13 := ne_of_beq_false c13
        refine AWP.skip ?_
        refine AWP.seq ?_
        refine AWP.region ?_
        refine Y (Yields.load_ptr_agg (j := 1) kd28 rfl rfl rfl rfl) rfl ?_
        refine AOps.store (j := 0) kd28 rfl rfl rfl rfl rfl rfl ?_
        refine Y (ass rfl) rfl ?_
        refine AOps.nil ?_
        refine AWP.ret ⟨.inl rfl, ?_⟩
        exact RetH.of (rs := [.cell 2 28, .tmp 3]) (vs := [_, _]) rfl ⟨resOne.cell (j := 0) rfl rfl kd28 rfl rfl rfl, rfl, trivial⟩ KeepR.nil (⟨by rw [sT0 c8 c10 c9 c11 c12 c13]; rfl, rfl⟩)
theorem lit2_facts (op : ByteArray) (a b : Tr) : (lit2 op a b).bnd 1000000 ∧ sizeT (lit2 op a b) = 1 := by
  obtain ⟨ak, an, az, aks⟩ := a
  obtain ⟨bk, bv, bs, bks⟩ := b
  refine ⟨⟨?_, by simp, trivial⟩, by rw [lit2, litT, sizeT, sizeTs]; omega⟩
  unfold litS
  split
  · unfold shortB; rw [ByteArray.size_extract]; omega
  · decide
theorem bin_facts {op : ByteArray} {a b e : Tr} (ha : a.bnd 1000000) (hb : b.bnd 1000000) (he : e.bnd 1000000) (hz : sizeT a ≤ sizeT e ∧ sizeT b ≤ sizeT e) : (binT op a b e).1.bnd 1000000 ∧ sizeT (binT op a b e).1 ≤ sizeT e := by
  have hp := sizeT_pos e
  unfold binT
  split
  · exact ⟨(lit2_facts op a b).1, by rw [(lit2_facts op a b).2]; omega⟩
  · split
    · exact ⟨ha, hz.1⟩
    · split
      · exact ⟨hb, hz.2⟩
      · split
        · exact ⟨ha, hz.1⟩
        · split
          · exact ⟨hb, hz.2⟩
          · exact ⟨he, Int.le_refl _⟩
theorem leafB (k n : Int) : Tr.bnd 1000000 (.mk k n ⟨#[]⟩ []) ∧ sizeT (.mk k n ⟨#[]⟩ []) = 1 := ⟨⟨by decide, by simp, trivial⟩, by rw [sizeT, sizeTs]; omega⟩
theorem simpler_facts {k : Tr} {d : Int} (hk : k.bnd 1000000) (hv : validS k d = true) : (simplerT k).1.bnd 1000000 ∧ sizeT (simplerT k).1 ≤ sizeT k := by
  have hk0 := hk
  obtain ⟨kd, nm, t, ks⟩ := k
  obtain ⟨h1, h2, h3⟩ := hk
  have self : Tr.bnd 1000000 (.mk kd nm t ks) ∧ sizeT (.mk kd nm t ks) ≤ sizeT (.mk kd nm t ks) := ⟨hk0, by omega⟩
  have hp := sizeT_pos (.mk kd nm t ks)
  rw [simplerT]
  split
  · match ks, h3 with
    | [], _ => exact self
    | .mk ck cn ct cks :: ks', h3 =>
      rw [simNot]
      split
      · match cks, h3 with
        | [], _ => exact self
        | x :: xs, h3 =>
          refine ⟨h3.1.2.2.1, ?_⟩
          show sizeT x ≤ _
          have := sizeTs_pos xs
          have := sizeTs_pos ks'
          simp only [sizeT, sizeTs]
          omega
      · split
        · exact ⟨(leafB _ _).1, by rw [(leafB _ _).2]; omega⟩
        · exact self
  · split
    · match ks, h3 with
      | [], _ => exact self
      | [_], _ => exact self
      | [_, _], _ => exact self
      | _ :: _ :: _ :: _ :: _, _ => exact self
      | [c, x, y], h3 =>
        have p1 := sizeT_pos c
        have p2 := sizeT_pos x
        have p3 := sizeT_pos y
        have hs : sizeT (.mk kd nm t [c, x, y]) = 1 + (sizeT c + (sizeT x + (sizeT y + 0))) := by rw [sizeT, sizeTs, sizeTs, sizeTs, sizeTs]
        rw [simIf]
        split
        · exact ⟨h3.2.1, by show sizeT x ≤ _; omega⟩
        · split
          · exact ⟨h3.2.2.1, by show sizeT y ≤ _; omega⟩
          · split
            · exact ⟨h3.1, by show sizeT c ≤ _; omega⟩
            · split
              · exact ⟨h3.2.1, by show sizeT x ≤ _; omega⟩
              · split
                · obtain ⟨ck, cn, ct, cks⟩ := c
                  rename_i h8
                  have h8' : ck = 8 := h8
                  subst h8'
                  obtain ⟨za, zb, zc, zl, rfl⟩ := kids1 (validSs_get (i := 0) (validS_inv hv).2.2 rfl) (.inl rfl)
                  · have q : True := trivial
                    refine ⟨⟨by decide, by simp, h3.1.2.2.1, h3.2.2.1, h3.2.1, trivial⟩, ?_⟩
                    show sizeT (.mk 10 0 ⟨#[]⟩ [.mk za zb zc zl, y, x]) ≤ _
                    rw [hs]
                    simp only [sizeT, sizeTs]
                    omega
                · exact self
    · split
      · match ks, h3 with
        | [], _ => exact self
        | [_], _ => exact self
        | _ :: _ :: _ :: _, _ => exact self
        | [a, b], h3 =>
          have p1 := sizeT_pos a
          have p2 := sizeT_pos b
          have hs : sizeT (.mk kd nm t [a, b]) = 1 + (sizeT a + (sizeT b + 0)) := by rw [sizeT, sizeTs, sizeTs, sizeTs]
          exact bin_facts h3.1 h3.2.1 hk0 ⟨by omega, by omega⟩
      · split
        · match ks, h3 with
          | [], _ => exact self
          | [_], _ => exact self
          | _ :: _ :: _ :: _, _ => exact self
          | [a, b], h3 =>
            have p1 := sizeT_pos a
            have p2 := sizeT_pos b
            have hs : sizeT (.mk kd nm t [a, b]) = 1 + (sizeT a + (sizeT b + 0)) := by rw [sizeT, sizeTs, sizeTs, sizeTs]
            rw [simLet]
            split
            · exact ⟨h3.1, by show sizeT a ≤ _; omega⟩
            · split
              · exact ⟨h3.2.1, by show sizeT b ≤ _; omega⟩
              · exact self
        · split
          · match ks, h3 with
            | [], _ => exact self
            | [_], _ => exact self
            | _ :: _ :: _ :: _, _ => exact self
            | [a, b], h3 =>
              have p1 := sizeT_pos a
              have p2 := sizeT_pos b
              have hs : sizeT (.mk kd nm t [a, b]) = 1 + (sizeT a + (sizeT b + 0)) := by rw [sizeT, sizeTs, sizeTs, sizeTs]
              rw [simFor]
              split
              · exact ⟨h3.1, by show sizeT a ≤ _; omega⟩
              · exact self
          · split
            · match ks, h3 with
              | [], _ => exact self
              | _ :: _ :: _, _ => exact self
              | [a], h3 =>
                rw [simSize]
                split
                · exact ⟨(leafB _ _).1, by rw [(leafB _ _).2]; omega⟩
                · exact self
            · exact self
def simE (k : Tr) : Tr × Int := if okE k = true then simplerT k else (nilTr, -1)
theorem simE_no {k : Tr} (h : okE k = false) : simE k = (nilTr, -1) := if_neg (by rw [h]; simp)
theorem simE_facts {k : Tr} (hk : k.bnd 1000000) : (simE k).1.bnd 1000000 ∧ sizeT (simE k).1 ≤ sizeT k := by
  unfold simE
  split
  · rename_i h; exact simpler_facts hk (okE_valid h)
  · have := sizeT_pos k
    exact ⟨⟨by decide, by simp, trivial⟩, by show sizeT nilTr ≤ _; rw [nilTr, sizeT, sizeTs]; omega⟩
def ownTI (x : Tr × Int) : AV → Hp → Prop := fun r hp' => ∃ B : Option Nat, r = .tup [openT B x.1, int x.2] ∧ hp' = [(B, ⟨4, Tr.avXs Tr.nosp x.1.kids⟩)]
theorem ownTI.fz {x : Tr × Int} {r : AV} {hp' : Hp} (h : ownTI x r hp') : Fz hp' r (.tup [x.1.av, int x.2]) := by
  obtain ⟨B, rfl, rfl⟩ := h
  exact Fz.tup ⟨(bor_avT (j := 0) x.1 rfl).fz, Fz.refl, trivial⟩
theorem ownTI.free {x : Tr × Int} {r : AV} {hp' : Hp} (h : ownTI x r hp') : Free r ∧ ∀ B row, (B, row) ∈ hp' → FreeL row.xs := by
  obtain ⟨B, rfl, rfl⟩ := h
  obtain ⟨h1, h2⟩ := ownT.free (k := x.1) ⟨B, rfl, rfl⟩
  exact ⟨Free.tup ⟨h1, Free.val, trivial⟩, h2⟩
theorem isimpler_AF (k : Tr) (hk : k.bnd 1000000) (hz : sizeT k ≤ 2000000) (hv : validS k 9 = true) : Fn 30 [k.av] (.tup [(simplerT k).1.av, int (simplerT k).2]) :=
  AH.toF (by simp [plainL, Tr.plain_av]) (isimpler_AH k 9 (by omega) (by omega) hk hz hv) (fun r hp' h => by obtain ⟨rfl, rfl⟩ := h; exact (Bor.refl (by simp [plainV, plainL, Tr.plain_av])).fz)
theorem ssimpler_AF (k : Tr) (hk : k.bnd 1000000) (hz : sizeT k ≤ 2000000) (hv : validS k 9 = true) : Fn 26 [k.av] (.tup [(simplerT k).1.av, int (simplerT k).2]) :=
  AH.toF (by simp [plainL, Tr.plain_av]) (ssimpler_AH k 9 hk hz hv) (fun r hp' h => by obtain ⟨rfl, rfl⟩ := h; exact (Bor.refl (by simp [plainV, plainL, Tr.plain_av])).fz)
end Go.Proofs.YtccdgppplkfjfaaGreat
