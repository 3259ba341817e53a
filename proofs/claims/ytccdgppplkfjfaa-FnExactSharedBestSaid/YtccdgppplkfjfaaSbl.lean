/- The law of SharedBest. -/
import Derived.Test.YtccdgppplkfjfaaShb
import Derived.Test.YtccdgppplkfjfaaInts
import Derived.Test.YtccdgppplkfjfaaOwn
namespace Go.Proofs.Ytccdgppplkfjfaa
open Go Go.Ax Go.Proofs
set_option linter.unusedVariables false
set_option linter.unusedSimpArgs false
set_option maxRecDepth 20000
theorem freeL_ints' (l : List Int) : FreeL (ints l) := freeL_ints l
theorem ownPB.free {p : List Int} {b : Bool} {r : AV} {hp' : Hp} (h : ownPB p b r hp') : Free r ∧ ∀ B row, (B, row) ∈ hp' → FreeL row.xs := by
  obtain ⟨B, rfl, rfl⟩ := h
  refine ⟨Free.tup ⟨fun w ok ok' cs F hr => by cases B <;> simpa only [Rep] using hr, Free.val, trivial⟩, fun B' row hm => ?_⟩
  simp at hm
  obtain ⟨rfl, rfl⟩ := hm
  exact freeL_ints p
theorem exactSharedBest (k : Tr) (hb : k.bnd 9223372036854775807) : Fn 9 [k.av] (bool true) := by
  obtain ⟨kd, nm, t, ks⟩ := k
  refine AF.intro Try.func9 nm9 rfl rfl rfl rfl fun w0 ok0 => ?_
  refine AWP.seq ?_
  refine AWP.region ?_
  refine AOps.box rfl rfl rfl rfl fun b1 => ?_
  refine Y (ass rfl) rfl ?_
  refine AOps.nil ?_
  refine AWP.seq ?_
  refine AWP.region ?_
  refine Y (ass rfl) rfl ?_
  refine AOps.nil ?_
  refine AWP.seq ?_
  refine AWP.region ?_
  refine Y (Yields.load_ptr_agg (j := 0) kd24 rfl rfl rfl rfl) rfl ?_
  refine Y (mv rfl) rfl ?_
  refine AOps.callro (szV_AFExpr (.mk kd nm t ks) 1000000 hb (by omega) (by omega)) rfl rfl rfl ?_
  refine Y (ass rfl) rfl ?_
  refine AOps.nil ?_
  refine AWP.seq ?_
  refine AWP.seq ?_
  refine AWP.region ?_
  refine Y (mv rfl) rfl ?_
  refine Y (bn rfl rfl BinR.lss rfl) rfl ?_
  refine AOps.nil ?_
  refine AWP.condT rfl (fun h => ?_) (fun h => ?_)
  ·
   replace h := of_decide_eq_true h
   refine AWP.seq ?_
   refine AWP.region ?_
   refine Y (ass rfl) rfl ?_
   refine AOps.nil ?_
   refine AWP.ret ⟨.inl rfl, ?_⟩
   exact RetIs.oneV rfl rfl (by (rfl) <;> rfl)
  ·
   replace h := of_decide_eq_false h
   have hk := szV_bnd _ 1000000 (by omega) (by omega) (by omega : 0 ≤ szV (.mk kd nm t ks) 1000000)
   have hz := sizeT_sz (.mk kd nm t ks) 1000000 (by omega) (by omega)
   have hz1 := hz
   rw [sizeT] at hz1
   have hz3 : sizeT (.mk kd nm t ks) ≤ 1000001 := by omega
   have hql := bestE_length (.mk kd nm t ks) 1000001 (by omega)
   have sF := sSharedBest_AF (.mk kd nm t ks) hk hz3
   have iH := iSharedBest_AH (.mk kd nm t ks) hk hz3
   have iF := iSharedBest_AF (.mk kd nm t ks) hk hz3
   generalize (bestE (.mk kd nm t ks)).1 = q at hql sF iH iF
   generalize decide (0 < (bestE (.mk kd nm t ks)).2) = bb at sF iH iF
   refine AWP.skip ?_
   refine AWP.seq ?_
   refine AWP.region ?_
   refine Y (Yields.load_ptr_agg (j := 0) kd24 rfl rfl rfl rfl) rfl ?_
   refine AOps.callro (to_AFExpr false (.mk kd nm t ks) hk) rfl rfl rfl ?_
   refine AOps.callw (sF) rfl rfl ⟨Tr.wk_avR _ _, trivial⟩ rfl ?_
   refine Y (mv rfl) rfl ?_
   refine Y (Yields.extract rfl rfl) rfl ?_
   refine Y (Yields.extract rfl rfl) rfl ?_
   refine Y (ass rfl) rfl ?_
   refine Y (ass rfl) rfl ?_
   refine AOps.nil ?_
   refine AWP.seq ?_
   refine AWP.region ?_
   refine Y (Yields.load_ptr_agg (j := 0) kd24 rfl rfl rfl rfl) rfl ?_
   refine AOps.callH (.inr rfl) (to_XExpr false (.mk kd nm t ks) hk) rfl rfl rfl (WkL.refl _) ?_
   rintro _ _ ⟨Bx, rfl, rfl⟩
   refine AOps.alloc rfl z30 rfl rfl fun b2 => ?_
   refine AOps.store (j := 0) kd30 rfl rfl rfl rfl rfl rfl ?_
   refine AOps.nil ?_
   refine AWP.seq ?_
   refine AWP.region ?_
   refine Y (Yields.load_ptr_agg (j := 0) kd30 rfl rfl rfl rfl) rfl ?_
   refine AOps.callHb (.inr rfl) (iH) rfl rfl rfl ⟨bor_av _ kd nm t ks (Tr.view_avs' false ks) (j := 1) rfl, trivial⟩ (fun r hp' h => ownPB.free h) ?_
   rintro _ _ ⟨Bg, rfl, rfl⟩
   refine Y (mv rfl) rfl ?_
   refine Y (Yields.extract rfl rfl) rfl ?_
   refine Y (Yields.extract rfl rfl) rfl ?_
   refine Y (ass rfl) rfl ?_
   refine Y (ass rfl) rfl ?_
   refine AOps.nil ?_
   refine AWP.seq ?_
   refine AWP.seq ?_
   refine AWP.region ?_
   refine Y (mv rfl) rfl ?_
   refine Y (mv rfl) rfl ?_
   refine AOps.call (eqIntS_AF q [] [] false false (by omega)) rfl rfl ⟨bor_intsN (j := 0) rfl rfl, Bor.refl rfl, trivial⟩ rfl Free.val ?_
   refine Y (Yields.not rfl) rfl ?_
   refine Y (mv rfl) rfl ?_
   refine AOps.split 36 rfl (fun s1 => ?_) (fun s1 => ?_)
   ·
    skip
    simp at s1
   ·
    skip
    refine AOps.on rfl rfl ?_
    refine Y (mv rfl) rfl ?_
    refine AOps.on rfl rfl ?_
    refine Y (mv rfl) rfl ?_
    refine AOps.on rfl rfl ?_
    refine Y (bn rfl rfl (BinR.bneq Try.underlying4) rfl) rfl ?_
    refine Y (Yields.pick_false rfl rfl) rfl ?_
    refine AOps.nil ?_
    refine AWP.condT rfl (fun s2 => ?_) (fun s2 => ?_)
    ·
     skip
     simp at s2
    ·
     skip
     refine AWP.skip ?_
     refine AWP.seq ?_
     refine AWP.seq ?_
     refine AWP.prune (tm' := [(0, _), (1, _), (2, _), (3, _), (18, _), (4, _), (5, _), (6, _), (7, _), (8, _), (40, _)]) ⟨rfl, rfl, rfl, rfl, rfl, rfl, rfl, rfl, rfl, rfl, rfl, trivial⟩ ?_
     refine AWP.drawn mixed rfl rfl ?_
     refine D (tm' := [(6, _)]) ⟨rfl, trivial⟩ (DStep.yields (Yields.load_ptr_agg (j := 1) kd30 rfl rfl rfl rfl)) rfl ?_
     refine D (tm' := [(1, _)]) ⟨rfl, trivial⟩ (DStep.yields (Yields.load_ptr_agg (j := 3) kd24 rfl rfl rfl rfl)) rfl ?_
     refine D (tm' := [(42, _)]) ⟨rfl, trivial⟩ (DStep.callro (to_AFExpr false (.mk kd nm t ks) hk) rfl rfl) rfl ?_
     refine D (tm' := [(41, _), (43, _)]) ⟨rfl, rfl, trivial⟩ (DStep.call (intact_AFExpr (.mk kd nm t ks) hk) rfl ⟨bor_avR false kd nm t ks (j := 2) rfl, Bor.refl rfl, trivial⟩ rfl Free.val) rfl ?_
     refine D (tm' := [(44, _)]) ⟨rfl, trivial⟩ (DStep.yields (Yields.not rfl)) rfl ?_
     refine DOps.nil ?_
     refine AWP.condT rfl (fun h3 => ?_) (fun h3 => ?_)
     ·
      skip
      simp at h3
     ·
      skip
      refine AWP.skip ?_
      refine AWP.seq ?_
      refine AWP.region ?_
      refine Y (ass rfl) rfl ?_
      refine AOps.nil ?_
      refine AWP.seq ?_
      refine AWP.region ?_
      refine Y (Yields.load_ptr_agg (j := 1) kd30 rfl rfl rfl rfl) rfl ?_
      refine Y (mv rfl) rfl ?_
      refine AOps.leads (Leads.pull 2 rfl) ?_
      refine AOps.callH (.inr rfl) (mark_XExpr (Tr.spare false) kd nm t ks 101 Bx (by omega) hk) rfl rfl rfl (WkL.refl _) ?_
      rintro _ _ ⟨rfl, rfl⟩
      refine Y (ass rfl) rfl ?_
      refine AOps.nil ?_
      refine AWP.seq ?_
      refine AWP.seq ?_
      refine AWP.region ?_
      refine Y (mv rfl) rfl ?_
      refine Y (bn rfl rfl BinR.lss rfl) rfl ?_
      refine Y (mv rfl) rfl ?_
      refine AOps.split 51 rfl (fun h4 => ?_) (fun h4 => ?_)
      ·
       replace h4 := of_decide_eq_true h4
       omega
      ·
       replace h4 := of_decide_eq_false h4
       refine AOps.on rfl rfl ?_
       refine Y (mv rfl) rfl ?_
       refine AOps.on rfl rfl ?_
       refine Y (mv rfl) rfl ?_
       refine AOps.on rfl rfl ?_
       refine AOps.call (eqIntS_AF q [] [] false false (by omega)) rfl rfl ⟨bor_intsN (j := 1) rfl rfl, Bor.refl rfl, trivial⟩ rfl Free.val ?_
       refine AOps.on rfl rfl ?_
       refine Y (Yields.not rfl) rfl ?_
       refine Y (Yields.pick_false rfl rfl) rfl ?_
       refine Y (mv rfl) rfl ?_
       refine AOps.split 57 rfl (fun h5 => ?_) (fun h5 => ?_)
       ·
        skip
        simp at h5
       ·
        skip
        refine AOps.on rfl rfl ?_
        refine Y (mv rfl) rfl ?_
        refine AOps.on rfl rfl ?_
        refine Y (mv rfl) rfl ?_
        refine AOps.on rfl rfl ?_
        refine Y (bn rfl rfl (BinR.bneq Try.underlying4) rfl) rfl ?_
        refine Y (Yields.pick_false rfl rfl) rfl ?_
        refine AOps.nil ?_
        refine AWP.condT rfl (fun h6 => ?_) (fun h6 => ?_)
        ·
         skip
         simp at h6
        ·
         skip
         refine AWP.leads (Leads.rowEq 1 rfl (List.append_nil _).symm) ?_
         refine AWP.skip ?_
         refine AWP.seq ?_
         refine AWP.region ?_
         refine Y (ass rfl) rfl ?_
         refine AOps.nil ?_
         refine AWP.seq ?_
         refine AWP.region ?_
         refine Y (mv rfl) rfl ?_
         refine Y (mv rfl) rfl ?_
         refine AOps.leads (Leads.pull 1 rfl) ?_
         refine AOps.callH (.inr rfl) (markIntS_AH q [] q.length Bg 101 (by omega)) rfl rfl rfl (WkL.refl _) ?_
         rintro _ _ ⟨rfl, rfl⟩
         refine AOps.leads (Leads.rowEq 0 rfl (List.append_nil _)) ?_
         refine Y (ass rfl) rfl ?_
         refine AOps.nil ?_
         refine AWP.seq ?_
         refine AWP.region ?_
         refine Y (ass rfl) rfl ?_
         refine AOps.nil ?_
         refine AWP.seq ?_
         refine AWP.region ?_
         refine Y (mv rfl) rfl ?_
         refine Y (mv rfl) rfl ?_
         refine AOps.call (heldIntS_AF q.length 101 [] (by omega)) rfl rfl ⟨bor_intsN (j := 0) rfl (markIs_length _ _).symm, Bor.refl rfl, trivial⟩ rfl Free.val ?_
         refine Y (ass rfl) rfl ?_
         refine AOps.nil ?_
         refine AWP.seq ?_
         refine AWP.seq ?_
         refine AWP.region ?_
         refine Y (mv rfl) rfl ?_
         refine Y (bn rfl rfl BinR.lss rfl) rfl ?_
         refine AOps.nil ?_
         refine AWP.condT rfl (fun h7 => ?_) (fun h7 => ?_)
         ·
          replace h7 := of_decide_eq_true h7
          omega
         ·
          replace h7 := of_decide_eq_false h7
          refine AWP.skip ?_
          refine AWP.seq ?_
          refine AWP.seq ?_
          refine AWP.region ?_
          refine Y (mv rfl) rfl ?_
          refine Y (mv rfl) rfl ?_
          refine Y (bn rfl rfl BinR.neq rfl) rfl ?_
          refine AOps.nil ?_
          refine AWP.condT rfl (fun h8 => ?_) (fun h8 => ?_)
          ·
           replace h8 := bne_iff_ne.1 h8
           exact absurd rfl h8
          ·
           replace h8 := bne_eq_false_iff_eq.1 h8
           refine AWP.skip ?_
           refine AWP.seq ?_
           refine AWP.region ?_
           refine Y (Yields.load_ptr_agg (j := 3) kd24 rfl rfl rfl rfl) rfl ?_
           refine AOps.callro (to_AFExpr true (.mk kd nm t ks) hk) rfl rfl rfl ?_
           refine AOps.callw (iF) rfl rfl ⟨Tr.wk_avR _ _, trivial⟩ rfl ?_
           refine Y (mv rfl) rfl ?_
           refine Y (Yields.extract rfl rfl) rfl ?_
           refine Y (Yields.extract rfl rfl) rfl ?_
           refine Y (ass rfl) rfl ?_
           refine Y (ass rfl) rfl ?_
           refine AOps.nil ?_
           refine AWP.seq ?_
           refine AWP.seq ?_
           refine AWP.region ?_
           refine Y (mv rfl) rfl ?_
           refine Y (mv rfl) rfl ?_
           refine AOps.callro (eqIntS_AF q [] [] false false (by omega)) rfl rfl rfl ?_
           refine Y (Yields.not rfl) rfl ?_
           refine Y (mv rfl) rfl ?_
           refine AOps.split 83 rfl (fun h9 => ?_) (fun h9 => ?_)
           ·
            skip
            simp at h9
           ·
            skip
            refine AOps.on rfl rfl ?_
            refine Y (mv rfl) rfl ?_
            refine AOps.on rfl rfl ?_
            refine Y (mv rfl) rfl ?_
            refine AOps.on rfl rfl ?_
            refine Y (bn rfl rfl (BinR.bneq Try.underlying4) rfl) rfl ?_
            refine Y (Yields.pick_false rfl rfl) rfl ?_
            refine AOps.nil ?_
            refine AWP.condT rfl (fun h10 => ?_) (fun h10 => ?_)
            ·
             skip
             simp at h10
            ·
             skip
             refine AWP.skip ?_
             refine AWP.seq ?_
             refine AWP.region ?_
             refine Y (ass rfl) rfl ?_
             refine AOps.nil ?_
             refine AWP.seq ?_
             refine AWP.region ?_
             refine Y (mv rfl) rfl ?_
             refine Y (mv rfl) rfl ?_
             refine AOps.call (heldIntS_AF q.length 101 [] (by omega)) rfl rfl ⟨bor_intsN (j := 0) rfl (markIs_length _ _).symm, Bor.refl rfl, trivial⟩ rfl Free.val ?_
             refine Y (ass rfl) rfl ?_
             refine AOps.nil ?_
             refine AWP.seq ?_
             refine AWP.seq ?_
             refine AWP.region ?_
             refine Y (mv rfl) rfl ?_
             refine Y (bn rfl rfl BinR.lss rfl) rfl ?_
             refine AOps.nil ?_
             refine AWP.condT rfl (fun h11 => ?_) (fun h11 => ?_)
             ·
              replace h11 := of_decide_eq_true h11
              omega
             ·
              replace h11 := of_decide_eq_false h11
              refine AWP.skip ?_
              refine AWP.seq ?_
              refine AWP.seq ?_
              refine AWP.region ?_
              refine Y (mv rfl) rfl ?_
              refine Y (mv rfl) rfl ?_
              refine Y (bn rfl rfl BinR.neq rfl) rfl ?_
              refine AOps.nil ?_
              refine AWP.condT rfl (fun h12 => ?_) (fun h12 => ?_)
              ·
               replace h12 := bne_iff_ne.1 h12
               exact absurd rfl h12
              ·
               replace h12 := bne_eq_false_iff_eq.1 h12
               refine AWP.skip ?_
               refine AWP.seq ?_
               refine AWP.region ?_
               refine Y (ass rfl) rfl ?_
               refine AOps.nil ?_
               refine AWP.ret ⟨.inl rfl, ?_⟩
               exact RetIs.oneV rfl rfl (by (rfl) <;> rfl)
end Go.Proofs.Ytccdgppplkfjfaa
