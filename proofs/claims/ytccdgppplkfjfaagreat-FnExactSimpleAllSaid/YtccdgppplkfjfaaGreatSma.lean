/- The law of SimpleAll. -/
import Derived.Test.YtccdgppplkfjfaaGreatSmp6
import Derived.Test.YtccdgppplkfjfaaGreatOwn
namespace Go.Proofs.YtccdgppplkfjfaaGreat
open Go Go.Ax Go.Proofs
set_option linter.unusedVariables false
set_option linter.unusedSimpArgs false
set_option maxRecDepth 20000
theorem exactSimpleAll (k : Tr) (hb : k.bnd 9223372036854775807) : Fn 3 [k.av] (bool true) := by
  obtain ⟨kd, nm, t, ks⟩ := k
  refine AF.intro Tryz.func3 nm3 rfl rfl rfl rfl fun w0 ok0 => ?_
  refine AWP.seq ?_
  refine AWP.region ?_
  refine AOps.box rfl rfl rfl rfl fun b1 => ?_
  refine Y (ass rfl) rfl ?_
  refine AOps.nil ?_
  refine AWP.seq ?_
  refine AWP.region ?_
  refine Y (ass rfl) rfl ?_
  refine AOps.nil ?_
  refine AWP.seq ?_
  refine AWP.region ?_
  refine Y (Yields.load_ptr_agg (j := 0) kd24 rfl rfl rfl rfl) rfl ?_
  refine Y (mv rfl) rfl ?_
  refine AOps.callro (szV_AFExpr (.mk kd nm t ks) 1000000 hb (by omega) (by omega)) rfl rfl rfl ?_
  refine Y (ass rfl) rfl ?_
  refine AOps.nil ?_
  refine AWP.seq ?_
  refine AWP.seq ?_
  refine AWP.region ?_
  refine Y (mv rfl) rfl ?_
  refine Y (bn rfl rfl BinR.lss rfl) rfl ?_
  refine AOps.nil ?_
  refine AWP.condT rfl (fun h => ?_) (fun h => ?_)
  ·
   replace h := of_decide_eq_true h
   refine AWP.seq ?_
   refine AWP.region ?_
   refine Y (ass rfl) rfl ?_
   refine AOps.nil ?_
   refine AWP.ret ⟨.inl rfl, ?_⟩
   exact RetIs.oneV rfl rfl (by (rfl) <;> rfl)
  ·
   replace h := of_decide_eq_false h
   have hk := szV_bnd _ 1000000 (by omega) (by omega) (by omega : 0 ≤ szV (.mk kd nm t ks) 1000000)
   have hz := sizeT_sz (.mk kd nm t ks) 1000000 (by omega) (by omega)
   have hz1 := hz
   rw [sizeT] at hz1
   have hz2 : sizeT (.mk kd nm t ks) ≤ 2000000 := by omega
   have hE := (simA_facts hk).1
   have hEs := (simA_facts hk).2
   have sF := sSimpleAll_AF (.mk kd nm t ks) hk hz2
   have iH := iSimpleAll_AH (.mk kd nm t ks) hk hz2
   have iF := iSimpleAll_AF (.mk kd nm t ks) hk hz2
   refine pairElim (simA (.mk kd nm t ks)) fun gd gn gt gks gm hgg => ?_
   rw [hgg] at sF iH iF hE hEs
   replace hE : Tr.bnd 1000000 (.mk gd gn gt gks) := hE
   replace hEs : sizeT (.mk gd gn gt gks) ≤ sizeT (.mk kd nm t ks) := hEs
   have hE1 := hE
   rw [sizeT] at hEs
   refine AWP.skip ?_
   refine AWP.seq ?_
   refine AWP.region ?_
   refine Y (Yields.load_ptr_agg (j := 0) kd24 rfl rfl rfl rfl) rfl ?_
   refine AOps.callro (to_AFExpr false (.mk kd nm t ks) hk) rfl rfl rfl ?_
   refine AOps.callw (sF) rfl rfl ⟨Tr.wk_avR _ _, trivial⟩ rfl ?_
   refine Y (mv rfl) rfl ?_
   refine Y (Yields.extract rfl rfl) rfl ?_
   refine Y (Yields.extract rfl rfl) rfl ?_
   refine AOps.alloc rfl z28 rfl rfl fun b2 => ?_
   refine AOps.store (j := 0) kd28 rfl rfl rfl rfl rfl rfl ?_
   refine Y (ass rfl) rfl ?_
   refine AOps.nil ?_
   refine AWP.seq ?_
   refine AWP.region ?_
   refine Y (Yields.load_ptr_agg (j := 1) kd24 rfl rfl rfl rfl) rfl ?_
   refine AOps.callH (.inr rfl) (to_XExpr false (.mk kd nm t ks) hk) rfl rfl rfl (WkL.refl _) ?_
   rintro _ _ ⟨Bx, rfl, rfl⟩
   refine AOps.alloc rfl z28 rfl rfl fun b3 => ?_
   refine AOps.store (j := 0) kd28 rfl rfl rfl rfl rfl rfl ?_
   refine AOps.nil ?_
   refine AWP.seq ?_
   refine AWP.region ?_
   refine Y (Yields.load_ptr_agg (j := 0) kd28 rfl rfl rfl rfl) rfl ?_
   refine AOps.callHb (.inr rfl) (iH) rfl rfl rfl ⟨bor_av _ kd nm t ks (Tr.view_avs' false ks) (j := 1) rfl, trivial⟩ (fun r hp' h => ownTI.free h) ?_
   rintro _ _ ⟨Bg, rfl, rfl⟩
   refine Y (mv rfl) rfl ?_
   refine Y (Yields.extract rfl rfl) rfl ?_
   refine Y (Yields.extract rfl rfl) rfl ?_
   refine AOps.alloc rfl z28 rfl rfl fun b4 => ?_
   refine AOps.store (j := 0) kd28 rfl rfl rfl rfl rfl rfl ?_
   refine Y (ass rfl) rfl ?_
   refine AOps.nil ?_
   refine AWP.seq ?_
   refine AWP.seq ?_
   refine AWP.region ?_
   refine Y (Yields.load_ptr_agg (j := 0) kd28 rfl rfl rfl rfl) rfl ?_
   refine Y (Yields.load_ptr_agg (j := 4) kd28 rfl rfl rfl rfl) rfl ?_
   refine AOps.call (gq_XExpr (.mk gd gn gt gks) hE1) rfl rfl ⟨bor_avT (.mk gd gn gt gks) (j := 1) rfl, Bor.refl rfl, trivial⟩ rfl Free.val ?_
   refine Y (Yields.not rfl) rfl ?_
   refine Y (mv rfl) rfl ?_
   refine AOps.split 36 rfl (fun h2a => ?_) (fun h2a => ?_)
   ·
    skip
    simp at h2a
   ·
    skip
    refine AOps.on rfl rfl ?_
    refine Y (mv rfl) rfl ?_
    refine AOps.on rfl rfl ?_
    refine Y (mv rfl) rfl ?_
    refine AOps.on rfl rfl ?_
    refine Y (bn rfl rfl BinR.neq rfl) rfl ?_
    refine Y (Yields.pick_false rfl rfl) rfl ?_
    refine AOps.nil ?_
    refine AWP.condT rfl (fun h2b => ?_) (fun h2b => ?_)
    ·
     replace h2b := bne_iff_ne.1 h2b
     exact absurd rfl h2b
    ·
     replace h2b := bne_eq_false_iff_eq.1 h2b
     refine AWP.skip ?_
     refine AWP.seq ?_
     refine AWP.seq ?_
     refine AWP.prune (tm' := [(0, _), (1, _), (2, _), (3, _), (18, _), (4, _), (5, _), (6, _), (7, _), (8, _), (40, _)]) ⟨rfl, rfl, rfl, rfl, rfl, rfl, rfl, rfl, rfl, rfl, rfl, trivial⟩ ?_
     refine AWP.drawn mixed rfl rfl ?_
     refine D (tm' := [(6, _)]) ⟨rfl, trivial⟩ (DStep.yields (Yields.load_ptr_agg (j := 2) kd28 rfl rfl rfl rfl)) rfl ?_
     refine D (tm' := [(1, _)]) ⟨rfl, trivial⟩ (DStep.yields (Yields.load_ptr_agg (j := 5) kd24 rfl rfl rfl rfl)) rfl ?_
     refine D (tm' := [(42, _)]) ⟨rfl, trivial⟩ (DStep.callro (to_AFExpr false (.mk kd nm t ks) hk) rfl rfl) rfl ?_
     refine D (tm' := [(41, _), (43, _)]) ⟨rfl, rfl, trivial⟩ (DStep.call (intact_AFExpr (.mk kd nm t ks) hk) rfl ⟨bor_avR false kd nm t ks (j := 3) rfl, Bor.refl rfl, trivial⟩ rfl Free.val) rfl ?_
     refine D (tm' := [(44, _)]) ⟨rfl, trivial⟩ (DStep.yields (Yields.not rfl)) rfl ?_
     refine DOps.nil ?_
     refine AWP.condT rfl (fun h3 => ?_) (fun h3 => ?_)
     ·
      skip
      simp at h3
     ·
      skip
      refine AWP.skip ?_
      refine AWP.seq ?_
      refine AWP.region ?_
      refine Y (ass rfl) rfl ?_
      refine AOps.nil ?_
      refine AWP.seq ?_
      refine AWP.region ?_
      refine Y (Yields.load_ptr_agg (j := 2) kd28 rfl rfl rfl rfl) rfl ?_
      refine Y (mv rfl) rfl ?_
      refine AOps.leads (Leads.pull 3 rfl) ?_
      refine AOps.callH (.inr rfl) (mark_XExpr (Tr.spare false) kd nm t ks 101 Bx (by omega) hk) rfl rfl rfl (WkL.refl _) ?_
      rintro _ _ ⟨rfl, rfl⟩
      have hmx := markL_le ks 101
      refine Y (ass rfl) rfl ?_
      refine AOps.nil ?_
      refine AWP.seq ?_
      refine AWP.seq ?_
      refine AWP.region ?_
      refine Y (mv rfl) rfl ?_
      refine Y (bn rfl rfl BinR.lss rfl) rfl ?_
      refine Y (mv rfl) rfl ?_
      refine AOps.split 51 rfl (fun h4 => ?_) (fun h4 => ?_)
      ·
       replace h4 := of_decide_eq_true h4
       omega
      ·
       replace h4 := of_decide_eq_false h4
       refine AOps.on rfl rfl ?_
       refine Y (Yields.load_ptr_agg (j := 1) kd28 rfl rfl rfl rfl) rfl ?_
       refine AOps.on rfl rfl ?_
       refine Y (Yields.load_ptr_agg (j := 4) kd28 rfl rfl rfl rfl) rfl ?_
       refine AOps.on rfl rfl ?_
       refine AOps.call (gq_XExpr (.mk gd gn gt gks) hE1) rfl rfl ⟨bor_avT (.mk gd gn gt gks) (j := 2) rfl, Bor.refl rfl, trivial⟩ rfl Free.val ?_
       refine AOps.on rfl rfl ?_
       refine Y (Yields.not rfl) rfl ?_
       refine Y (Yields.pick_false rfl rfl) rfl ?_
       refine Y (mv rfl) rfl ?_
       refine AOps.split 57 rfl (fun h5a => ?_) (fun h5a => ?_)
       ·
        skip
        simp at h5a
       ·
        skip
        refine AOps.on rfl rfl ?_
        refine Y (mv rfl) rfl ?_
        refine AOps.on rfl rfl ?_
        refine Y (mv rfl) rfl ?_
        refine AOps.on rfl rfl ?_
        refine Y (bn rfl rfl BinR.neq rfl) rfl ?_
        refine Y (Yields.pick_false rfl rfl) rfl ?_
        refine AOps.nil ?_
        refine AWP.condT rfl (fun h5b => ?_) (fun h5b => ?_)
        ·
         replace h5b := bne_iff_ne.1 h5b
         exact absurd rfl h5b
        ·
         replace h5b := bne_eq_false_iff_eq.1 h5b
         refine AWP.skip ?_
         refine AWP.seq ?_
         refine AWP.region ?_
         refine Y (ass rfl) rfl ?_
         refine AOps.nil ?_
         refine AWP.seq ?_
         refine AWP.region ?_
         refine Y (Yields.load_ptr_agg (j := 1) kd28 rfl rfl rfl rfl) rfl ?_
         refine Y (mv rfl) rfl ?_
         refine AOps.leads (Leads.pull 2 rfl) ?_
         refine AOps.callH (.inr rfl) (mark_TExpr gd gn gt gks 101 Bg (by omega) hE1) rfl rfl rfl (WkL.refl _) ?_
         rintro _ _ ⟨rfl, rfl⟩
         have hml := markL_length gks 101
         refine Y (ass rfl) rfl ?_
         refine AOps.nil ?_
         refine AWP.seq ?_
         refine AWP.region ?_
         refine Y (ass rfl) rfl ?_
         refine AOps.nil ?_
         refine AWP.seq ?_
         refine AWP.region ?_
         refine Y (Yields.load_ptr_agg (j := 2) kd28 rfl rfl rfl rfl) rfl ?_
         refine Y (mv rfl) rfl ?_
         refine AOps.call (held_XExpr gd gn gt gks 101 (by omega) hE1) rfl rfl ⟨bor_avM (j := 0) gd gn gt gks _ hml rfl, Bor.refl rfl, trivial⟩ rfl Free.val ?_
         refine Y (ass rfl) rfl ?_
         refine AOps.nil ?_
         refine AWP.seq ?_
         refine AWP.seq ?_
         refine AWP.region ?_
         refine Y (mv rfl) rfl ?_
         refine Y (bn rfl rfl BinR.lss rfl) rfl ?_
         refine AOps.nil ?_
         refine AWP.condT rfl (fun h6a => ?_) (fun h6a => ?_)
         ·
          replace h6a := of_decide_eq_true h6a
          omega
         ·
          replace h6a := of_decide_eq_false h6a
          refine AWP.skip ?_
          refine AWP.seq ?_
          refine AWP.seq ?_
          refine AWP.region ?_
          refine Y (mv rfl) rfl ?_
          refine Y (mv rfl) rfl ?_
          refine Y (bn rfl rfl BinR.neq rfl) rfl ?_
          refine AOps.nil ?_
          refine AWP.condT rfl (fun h6b => ?_) (fun h6b => ?_)
          ·
           replace h6b := bne_iff_ne.1 h6b
           exact absurd rfl h6b
          ·
           replace h6b := bne_eq_false_iff_eq.1 h6b
           refine AWP.skip ?_
           refine AWP.seq ?_
           refine AWP.region ?_
           refine Y (Yields.load_ptr_agg (j := 5) kd24 rfl rfl rfl rfl) rfl ?_
           refine AOps.callro (to_AFExpr true (.mk kd nm t ks) hk) rfl rfl rfl ?_
           refine AOps.callw (iF) rfl rfl ⟨Tr.wk_avR _ _, trivial⟩ rfl ?_
           refine Y (mv rfl) rfl ?_
           refine Y (Yields.extract rfl rfl) rfl ?_
           refine Y (Yields.extract rfl rfl) rfl ?_
           refine AOps.alloc rfl z28 rfl rfl fun b5 => ?_
           refine AOps.store (j := 0) kd28 rfl rfl rfl rfl rfl rfl ?_
           refine Y (ass rfl) rfl ?_
           refine AOps.nil ?_
           refine AWP.seq ?_
           refine AWP.seq ?_
           refine AWP.region ?_
           refine Y (Yields.load_ptr_agg (j := 0) kd28 rfl rfl rfl rfl) rfl ?_
           refine Y (Yields.load_ptr_agg (j := 5) kd28 rfl rfl rfl rfl) rfl ?_
           refine AOps.callro (gq_XExpr (.mk gd gn gt gks) hE1) rfl rfl rfl ?_
           refine Y (Yields.not rfl) rfl ?_
           refine Y (mv rfl) rfl ?_
           refine AOps.split 83 rfl (fun h8a => ?_) (fun h8a => ?_)
           ·
            skip
            simp at h8a
           ·
            skip
            refine AOps.on rfl rfl ?_
            refine Y (mv rfl) rfl ?_
            refine AOps.on rfl rfl ?_
            refine Y (mv rfl) rfl ?_
            refine AOps.on rfl rfl ?_
            refine Y (bn rfl rfl BinR.neq rfl) rfl ?_
            refine Y (Yields.pick_false rfl rfl) rfl ?_
            refine AOps.nil ?_
            refine AWP.condT rfl (fun h8b => ?_) (fun h8b => ?_)
            ·
             replace h8b := bne_iff_ne.1 h8b
             exact absurd rfl h8b
            ·
             replace h8b := bne_eq_false_iff_eq.1 h8b
             refine AWP.skip ?_
             refine AWP.seq ?_
             refine AWP.region ?_
             refine Y (ass rfl) rfl ?_
             refine AOps.nil ?_
             refine AWP.seq ?_
             refine AWP.region ?_
             refine Y (Yields.load_ptr_agg (j := 3) kd28 rfl rfl rfl rfl) rfl ?_
             refine Y (mv rfl) rfl ?_
             refine AOps.call (held_XExpr gd gn gt gks 101 (by omega) hE1) rfl rfl ⟨bor_avM (j := 1) gd gn gt gks _ hml rfl, Bor.refl rfl, trivial⟩ rfl Free.val ?_
             refine Y (ass rfl) rfl ?_
             refine AOps.nil ?_
             refine AWP.seq ?_
             refine AWP.seq ?_
             refine AWP.region ?_
             refine Y (mv rfl) rfl ?_
             refine Y (bn rfl rfl BinR.lss rfl) rfl ?_
             refine AOps.nil ?_
             refine AWP.condT rfl (fun h9a => ?_) (fun h9a => ?_)
             ·
              replace h9a := of_decide_eq_true h9a
              omega
             ·
              replace h9a := of_decide_eq_false h9a
              refine AWP.skip ?_
              refine AWP.seq ?_
              refine AWP.seq ?_
              refine AWP.region ?_
              refine Y (mv rfl) rfl ?_
              refine Y (mv rfl) rfl ?_
              refine Y (bn rfl rfl BinR.neq rfl) rfl ?_
              refine AOps.nil ?_
              refine AWP.condT rfl (fun h9b => ?_) (fun h9b => ?_)
              ·
               replace h9b := bne_iff_ne.1 h9b
               exact absurd rfl h9b
              ·
               replace h9b := bne_eq_false_iff_eq.1 h9b
               refine AWP.skip ?_
               refine AWP.seq ?_
               refine AWP.region ?_
               refine Y (ass rfl) rfl ?_
               refine AOps.nil ?_
               refine AWP.ret ⟨.inl rfl, ?_⟩
               exact RetIs.oneV rfl rfl (by (rfl) <;> rfl)
end Go.Proofs.YtccdgppplkfjfaaGreat
