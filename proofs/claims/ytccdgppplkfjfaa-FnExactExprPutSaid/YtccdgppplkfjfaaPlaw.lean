/- The laws of ExprAt and LocalsAt. -/
import Derived.Test.YtccdgppplkfjfaaPathe
namespace Go.Proofs.Ytccdgppplkfjfaa
open Go Go.Ax Go.Proofs
set_option linter.unusedVariables false
set_option linter.unusedSimpArgs false
set_option maxRecDepth 20000
theorem wkI (l : List Int) (b : Bool) : Wk (.ro 1 (ints l) (ints (spareI b l.length)) false) (.ro 1 (ints l) [] false) := Wk.ro (WkL.refl _)
theorem ownI.open {b : Bool} {l : List Int} {r : AV} {hp' : Hp} (h : ownI b l r hp') : ∃ B : Option Nat, r = .loc B 0 l.length (l.length + (spareI b l.length).length) 1 ∧ hp' = [(B, ⟨1, ints l ++ ints (spareI b l.length)⟩)] := h
theorem exactExprAtN (k : Tr) (hb : k.bnd 9223372036854775807) (hkt : k.text.size ≤ 140737488355328) (p : List Int) (hp : p.length ≤ 140737488355328) (hneg : (1000000 : Int) - p.length < 0) : Fn 5 [k.av, .ro 1 (ints p) [] false] (bool true) := by
  obtain ⟨kd, nm, t, ks⟩ := k
  have hlp := ints_length p
  refine AF.intro Try.func5 nm5 rfl rfl rfl rfl fun w0 ok0 => ?_
  refine AWP.seq ?_
  refine AWP.region ?_
  refine AOps.box rfl rfl rfl rfl fun b1 => ?_
  refine Y (ass rfl) rfl ?_
  refine AOps.nil ?_
  refine AWP.seq ?_
  refine AWP.region ?_
  refine Y (mv rfl) rfl ?_
  refine Y (Yields.len_ro sl41 rfl) rfl ?_
  refine Y (bn rfl rfl (BinR.subI (by omega) (by omega)) rfl) rfl ?_
  refine Y (ass rfl) rfl ?_
  refine AOps.nil ?_
  refine AWP.seq ?_
  refine AWP.region ?_
  refine Y (Yields.load_ptr_agg (j := 0) kd24 rfl rfl rfl rfl) rfl ?_
  refine Y (mv rfl) rfl ?_
  refine AOps.callro (szV_lessExpr (.mk kd nm t ks) (1000000 - (ints p).length) hb (by omega) (by omega) (by omega)) rfl rfl rfl ?_
  refine Y (ass rfl) rfl ?_
  refine AOps.nil ?_
  refine AWP.seq ?_
  refine AWP.seq ?_
  refine AWP.region ?_
  refine Y (mv rfl) rfl ?_
  refine Y (bn rfl rfl BinR.lss rfl) rfl ?_
  refine AOps.nil ?_
  refine AWP.condT rfl (fun h => ?_) (fun h => ?_)
  · replace h := of_decide_eq_true h
    refine AWP.seq ?_
    refine AWP.region ?_
    refine Y (ass rfl) rfl ?_
    refine AOps.nil ?_
    refine AWP.ret ⟨.inl rfl, ?_⟩
    exact RetIs.oneV rfl rfl (by (rfl) <;> rfl)
  · replace h := of_decide_eq_false h
    omega
theorem exactExprAt (k : Tr) (hb : k.bnd 9223372036854775807) (hkt : k.text.size ≤ 140737488355328) (p : List Int) (hp : p.length ≤ 140737488355328) : Fn 5 [k.av, .ro 1 (ints p) [] false] (bool true) := by
  by_cases hneg : (1000000 : Int) - p.length < 0
  · exact exactExprAtN k hb hkt p hp hneg
  obtain ⟨kd, nm, t, ks⟩ := k
  have hlp := ints_length p
  refine AF.intro Try.func5 nm5 rfl rfl rfl rfl fun w0 ok0 => ?_
  refine AWP.seq ?_
  refine AWP.region ?_
  refine AOps.box rfl rfl rfl rfl fun b1 => ?_
  refine Y (ass rfl) rfl ?_
  refine AOps.nil ?_
  refine AWP.seq ?_
  refine AWP.region ?_
  refine Y (mv rfl) rfl ?_
  refine Y (Yields.len_ro sl41 rfl) rfl ?_
  refine Y (bn rfl rfl (BinR.subI (by omega) (by omega)) rfl) rfl ?_
  refine Y (ass rfl) rfl ?_
  refine AOps.nil ?_
  refine AWP.seq ?_
  refine AWP.region ?_
  refine Y (Yields.load_ptr_agg (j := 0) kd24 rfl rfl rfl rfl) rfl ?_
  refine Y (mv rfl) rfl ?_
  refine AOps.callro (szV_AFExpr (.mk kd nm t ks) (1000000 - (ints p).length) hb (by omega) (by omega)) rfl rfl rfl ?_
  refine Y (ass rfl) rfl ?_
  refine AOps.nil ?_
  refine AWP.seq ?_
  refine AWP.seq ?_
  refine AWP.region ?_
  refine Y (mv rfl) rfl ?_
  refine Y (bn rfl rfl BinR.lss rfl) rfl ?_
  refine AOps.nil ?_
  refine AWP.condT rfl (fun h => ?_) (fun h => ?_)
  · replace h := of_decide_eq_true h
    refine AWP.seq ?_
    refine AWP.region ?_
    refine Y (ass rfl) rfl ?_
    refine AOps.nil ?_
    refine AWP.ret ⟨.inl rfl, ?_⟩
    exact RetIs.oneV rfl rfl (by (rfl) <;> rfl)
  · replace h := of_decide_eq_false h
    have hk := szV_bnd _ (1000000 - (ints p).length) (by omega) (by omega) (by omega : 0 ≤ szV (.mk kd nm t ks) (1000000 - (ints p).length))
    have hz := sizeT_sz (.mk kd nm t ks) (1000000 - (ints p).length) (by omega) (by omega)
    have hz1 := hz
    rw [sizeT] at hz1
    have hz2 : sizeT (.mk kd nm t ks) ≤ 2000000 := by omega
    have hpl : p.length ≤ 1000000 := by omega
    have hE := atE_facts (.mk kd nm t ks) p hk
    have hEs := atE_size (.mk kd nm t ks) p
    have sF := sExprAt_AF (.mk kd nm t ks) hk hz2 p hpl
    have iH := iExprAt_AH (.mk kd nm t ks) hk hz2 p hpl
    have iF := iExprAt_AF (.mk kd nm t ks) hk hz2 p hpl
    generalize atE (.mk kd nm t ks) p = gk at hE hEs sF iH iF
    generalize atB (.mk kd nm t ks) p = gb at sF iH iF
    obtain ⟨gd, gn, gt, gks⟩ := gk
    have hE1 := hE
    rw [sizeT] at hEs
    refine AWP.skip ?_
    refine AWP.seq ?_
    refine AWP.region ?_
    refine Y (Yields.load_ptr_agg (j := 0) kd24 rfl rfl rfl rfl) rfl ?_
    refine AOps.callro (to_AFExpr false (.mk kd nm t ks) hk) rfl rfl rfl ?_
    refine Y (mv rfl) rfl ?_
    refine AOps.callro (toIntS_AF false p hpl) rfl rfl rfl ?_
    refine AOps.callw (sF) rfl rfl ⟨Tr.wk_avR _ _, wkI _ _, trivial⟩ rfl ?_
    refine Y (mv rfl) rfl ?_
    refine Y (Yields.extract rfl rfl) rfl ?_
    refine Y (Yields.extract rfl rfl) rfl ?_
    refine AOps.alloc rfl z30 rfl rfl fun b2 => ?_
    refine AOps.store (j := 0) kd30 rfl rfl rfl rfl rfl rfl ?_
    refine Y (ass rfl) rfl ?_
    refine AOps.nil ?_
    refine AWP.seq ?_
    refine AWP.region ?_
    refine Y (Yields.load_ptr_agg (j := 1) kd24 rfl rfl rfl rfl) rfl ?_
    refine AOps.callH (.inr rfl) (to_XExpr false (.mk kd nm t ks) hk) rfl rfl rfl (WkL.refl _) ?_
    rintro _ _ ⟨Bx, rfl, rfl⟩
    refine AOps.alloc rfl z30 rfl rfl fun b3 => ?_
    refine AOps.store (j := 0) kd30 rfl rfl rfl rfl rfl rfl ?_
    refine AOps.nil ?_
    refine AWP.seq ?_
    refine AWP.region ?_
    refine Y (mv rfl) rfl ?_
    refine AOps.callH (.inr rfl) (toIntS_AH false p hpl) rfl rfl rfl (WkL.refl _) ?_
    rintro _ _ ⟨Bp, rfl, rfl⟩
    refine Y (ass rfl) rfl ?_
    refine AOps.nil ?_
    refine AWP.seq ?_
    refine AWP.region ?_
    refine Y (Yields.load_ptr_agg (j := 1) kd30 rfl rfl rfl rfl) rfl ?_
    refine Y (mv rfl) rfl ?_
    refine AOps.callHb (.inr rfl) (iH) rfl rfl rfl ⟨bor_av _ kd nm t ks (Tr.view_avs' false ks) (j := 2) rfl, bor_ints (j := 0) rfl rfl, trivial⟩ (fun r hp' h => ownTP.free h) ?_
    rintro _ _ ⟨Bg, rfl, rfl⟩
    refine Y (mv rfl) rfl ?_
    refine Y (Yields.extract rfl rfl) rfl ?_
    refine Y (Yields.extract rfl rfl) rfl ?_
    refine AOps.alloc rfl z30 rfl rfl fun b4 => ?_
    refine AOps.store (j := 0) kd30 rfl rfl rfl rfl rfl rfl ?_
    refine Y (ass rfl) rfl ?_
    refine AOps.nil ?_
    refine AWP.seq ?_
    refine AWP.seq ?_
    refine AWP.region ?_
    refine Y (Yields.load_ptr_agg (j := 0) kd30 rfl rfl rfl rfl) rfl ?_
    refine Y (Yields.load_ptr_agg (j := 5) kd30 rfl rfl rfl rfl) rfl ?_
    refine AOps.call (gq_XExpr (.mk gd gn gt gks) hE1) rfl rfl ⟨bor_avT (.mk gd gn gt gks) (j := 1) rfl, Bor.refl rfl, trivial⟩ rfl Free.val ?_
    refine Y (Yields.not rfl) rfl ?_
    refine Y (mv rfl) rfl ?_
    refine AOps.split 47 rfl (fun h2a => ?_) (fun h2a => ?_)
    · skip
      simp at h2a
    · skip
      refine AOps.on rfl rfl ?_
      refine Y (mv rfl) rfl ?_
      refine AOps.on rfl rfl ?_
      refine Y (mv rfl) rfl ?_
      refine AOps.on rfl rfl ?_
      refine Y (bn rfl rfl (BinR.bneq Try.underlying4) rfl) rfl ?_
      refine Y (Yields.pick_false rfl rfl) rfl ?_
      refine AOps.nil ?_
      refine AWP.condT rfl (fun h2b => ?_) (fun h2b => ?_)
      · skip
        simp at h2b
      · skip
        refine AWP.skip ?_
        refine AWP.seq ?_
        refine AWP.seq ?_
        refine AWP.prune (tm' := [(0, _), (1, _), (2, _), (4, _), (5, _), (24, _), (6, _), (7, _), (8, _), (9, _), (10, _), (11, _), (51, _)]) ⟨rfl, rfl, rfl, rfl, rfl, rfl, rfl, rfl, rfl, rfl, rfl, rfl, rfl, trivial⟩ ?_
        refine AWP.drawn mixed rfl rfl ?_
        refine D (tm' := [(8, _)]) ⟨rfl, trivial⟩ (DStep.yields (Yields.load_ptr_agg (j := 3) kd30 rfl rfl rfl rfl)) rfl ?_
        refine D (tm' := [(2, _)]) ⟨rfl, trivial⟩ (DStep.yields (Yields.load_ptr_agg (j := 6) kd24 rfl rfl rfl rfl)) rfl ?_
        refine D (tm' := [(53, _)]) ⟨rfl, trivial⟩ (DStep.callro (to_AFExpr false (.mk kd nm t ks) hk) rfl rfl) rfl ?_
        refine D (tm' := [(52, _), (54, _)]) ⟨rfl, rfl, trivial⟩ (DStep.call (intact_AFExpr (.mk kd nm t ks) hk) rfl ⟨bor_avR false kd nm t ks (j := 4) rfl, Bor.refl rfl, trivial⟩ rfl Free.val) rfl ?_
        refine D (tm' := [(55, _)]) ⟨rfl, trivial⟩ (DStep.yields (Yields.not rfl)) rfl ?_
        refine DOps.nil ?_
        refine AWP.condT rfl (fun h3 => ?_) (fun h3 => ?_)
        · skip
          simp at h3
        · skip
          refine AWP.skip ?_
          refine AWP.seq ?_
          refine AWP.seq ?_
          refine AWP.region ?_
          refine Y (mv rfl) rfl ?_
          refine Y (mv rfl) rfl ?_
          refine AOps.callro (toIntS_AF false p hpl) rfl rfl rfl ?_
          refine AOps.call (intactIntS_AF p hpl) rfl rfl ⟨bor_intsR (j := 2) rfl, Bor.refl rfl, trivial⟩ rfl Free.val ?_
          refine Y (Yields.not rfl) rfl ?_
          refine AOps.nil ?_
          refine AWP.condT rfl (fun h3b => ?_) (fun h3b => ?_)
          · skip
            simp at h3b
          · skip
            refine AWP.skip ?_
            refine AWP.seq ?_
            refine AWP.region ?_
            refine Y (ass rfl) rfl ?_
            refine AOps.nil ?_
            refine AWP.seq ?_
            refine AWP.region ?_
            refine Y (Yields.load_ptr_agg (j := 3) kd30 rfl rfl rfl rfl) rfl ?_
            refine Y (mv rfl) rfl ?_
            refine AOps.leads (Leads.pull 4 rfl) ?_
            refine AOps.callH (.inr rfl) (mark_XExpr (Tr.spare false) kd nm t ks 101 Bx (by omega) hk) rfl rfl rfl (WkL.refl _) ?_
            rintro _ _ ⟨rfl, rfl⟩
            have hmx := markL_le ks 101
            refine Y (ass rfl) rfl ?_
            refine AOps.nil ?_
            refine AWP.seq ?_
            refine AWP.region ?_
            refine Y (mv rfl) rfl ?_
            refine Y (mv rfl) rfl ?_
            refine AOps.leads (Leads.pull 3 rfl) ?_
            refine AOps.callH (.inr rfl) (markIntS_AH p _ _ Bp (markL ks 101).2 (by omega)) rfl rfl rfl (WkL.refl _) ?_
            rintro _ _ ⟨rfl, rfl⟩
            refine Y (ass rfl) rfl ?_
            refine AOps.nil ?_
            refine AWP.seq ?_
            refine AWP.seq ?_
            refine AWP.region ?_
            refine Y (mv rfl) rfl ?_
            refine Y (bn rfl rfl BinR.lss rfl) rfl ?_
            refine Y (mv rfl) rfl ?_
            refine AOps.split 70 rfl (fun h4 => ?_) (fun h4 => ?_)
            · replace h4 := of_decide_eq_true h4
              omega
            · replace h4 := of_decide_eq_false h4
              refine AOps.on rfl rfl ?_
              refine Y (Yields.load_ptr_agg (j := 2) kd30 rfl rfl rfl rfl) rfl ?_
              refine AOps.on rfl rfl ?_
              refine Y (Yields.load_ptr_agg (j := 5) kd30 rfl rfl rfl rfl) rfl ?_
              refine AOps.on rfl rfl ?_
              refine AOps.call (gq_XExpr (.mk gd gn gt gks) hE1) rfl rfl ⟨bor_avT (.mk gd gn gt gks) (j := 3) rfl, Bor.refl rfl, trivial⟩ rfl Free.val ?_
              refine AOps.on rfl rfl ?_
              refine Y (Yields.not rfl) rfl ?_
              refine Y (Yields.pick_false rfl rfl) rfl ?_
              refine Y (mv rfl) rfl ?_
              refine AOps.split 76 rfl (fun h5a => ?_) (fun h5a => ?_)
              · skip
                simp at h5a
              · skip
                refine AOps.on rfl rfl ?_
                refine Y (mv rfl) rfl ?_
                refine AOps.on rfl rfl ?_
                refine Y (mv rfl) rfl ?_
                refine AOps.on rfl rfl ?_
                refine Y (bn rfl rfl (BinR.bneq Try.underlying4) rfl) rfl ?_
                refine Y (Yields.pick_false rfl rfl) rfl ?_
                refine AOps.nil ?_
                refine AWP.condT rfl (fun h5b => ?_) (fun h5b => ?_)
                · skip
                  simp at h5b
                · skip
                  refine AWP.skip ?_
                  refine AWP.seq ?_
                  refine AWP.region ?_
                  refine Y (ass rfl) rfl ?_
                  refine AOps.nil ?_
                  refine AWP.seq ?_
                  refine AWP.region ?_
                  refine Y (Yields.load_ptr_agg (j := 2) kd30 rfl rfl rfl rfl) rfl ?_
                  refine Y (mv rfl) rfl ?_
                  refine AOps.leads (Leads.pull 3 rfl) ?_
                  refine AOps.callH (.inr rfl) (mark_TExpr gd gn gt gks 101 Bg (by omega) hE1) rfl rfl rfl (WkL.refl _) ?_
                  rintro _ _ ⟨rfl, rfl⟩
                  have hml := markL_length gks 101
                  refine Y (ass rfl) rfl ?_
                  refine AOps.nil ?_
                  refine AWP.seq ?_
                  refine AWP.region ?_
                  refine Y (ass rfl) rfl ?_
                  refine AOps.nil ?_
                  refine AWP.seq ?_
                  refine AWP.region ?_
                  refine Y (Yields.load_ptr_agg (j := 3) kd30 rfl rfl rfl rfl) rfl ?_
                  refine Y (mv rfl) rfl ?_
                  refine AOps.call (held_XExpr gd gn gt gks 101 (by omega) hE1) rfl rfl ⟨bor_avM (j := 0) gd gn gt gks _ hml rfl, Bor.refl rfl, trivial⟩ rfl Free.val ?_
                  refine Y (ass rfl) rfl ?_
                  refine AOps.nil ?_
                  refine AWP.seq ?_
                  refine AWP.seq ?_
                  refine AWP.region ?_
                  refine Y (mv rfl) rfl ?_
                  refine Y (bn rfl rfl BinR.lss rfl) rfl ?_
                  refine AOps.nil ?_
                  refine AWP.condT rfl (fun h6a => ?_) (fun h6a => ?_)
                  · replace h6a := of_decide_eq_true h6a
                    omega
                  · replace h6a := of_decide_eq_false h6a
                    refine AWP.skip ?_
                    refine AWP.seq ?_
                    refine AWP.seq ?_
                    refine AWP.region ?_
                    refine Y (mv rfl) rfl ?_
                    refine Y (mv rfl) rfl ?_
                    refine Y (bn rfl rfl BinR.neq rfl) rfl ?_
                    refine AOps.nil ?_
                    refine AWP.condT rfl (fun h6b => ?_) (fun h6b => ?_)
                    · replace h6b := bne_iff_ne.1 h6b
                      exact absurd rfl h6b
                    · replace h6b := bne_eq_false_iff_eq.1 h6b
                      refine AWP.skip ?_
                      refine AWP.seq ?_
                      refine AWP.region ?_
                      refine Y (Yields.load_ptr_agg (j := 6) kd24 rfl rfl rfl rfl) rfl ?_
                      refine AOps.callro (to_AFExpr true (.mk kd nm t ks) hk) rfl rfl rfl ?_
                      refine Y (mv rfl) rfl ?_
                      refine AOps.callro (toIntS_AF true p hpl) rfl rfl rfl ?_
                      refine AOps.callw (iF) rfl rfl ⟨Tr.wk_avR _ _, wkI _ _, trivial⟩ rfl ?_
                      refine Y (mv rfl) rfl ?_
                      refine Y (Yields.extract rfl rfl) rfl ?_
                      refine Y (Yields.extract rfl rfl) rfl ?_
                      refine AOps.alloc rfl z30 rfl rfl fun b5 => ?_
                      refine AOps.store (j := 0) kd30 rfl rfl rfl rfl rfl rfl ?_
                      refine Y (ass rfl) rfl ?_
                      refine AOps.nil ?_
                      refine AWP.seq ?_
                      refine AWP.seq ?_
                      refine AWP.region ?_
                      refine Y (Yields.load_ptr_agg (j := 0) kd30 rfl rfl rfl rfl) rfl ?_
                      refine Y (Yields.load_ptr_agg (j := 6) kd30 rfl rfl rfl rfl) rfl ?_
                      refine AOps.callro (gq_XExpr (.mk gd gn gt gks) hE1) rfl rfl rfl ?_
                      refine Y (Yields.not rfl) rfl ?_
                      refine Y (mv rfl) rfl ?_
                      refine AOps.split 104 rfl (fun h8a => ?_) (fun h8a => ?_)
                      · skip
                        simp at h8a
                      · skip
                        refine AOps.on rfl rfl ?_
                        refine Y (mv rfl) rfl ?_
                        refine AOps.on rfl rfl ?_
                        refine Y (mv rfl) rfl ?_
                        refine AOps.on rfl rfl ?_
                        refine Y (bn rfl rfl (BinR.bneq Try.underlying4) rfl) rfl ?_
                        refine Y (Yields.pick_false rfl rfl) rfl ?_
                        refine AOps.nil ?_
                        refine AWP.condT rfl (fun h8b => ?_) (fun h8b => ?_)
                        · skip
                          simp at h8b
                        · skip
                          refine AWP.skip ?_
                          refine AWP.seq ?_
                          refine AWP.region ?_
                          refine Y (ass rfl) rfl ?_
                          refine AOps.nil ?_
                          refine AWP.seq ?_
                          refine AWP.region ?_
                          refine Y (Yields.load_ptr_agg (j := 4) kd30 rfl rfl rfl rfl) rfl ?_
                          refine Y (mv rfl) rfl ?_
                          refine AOps.call (held_XExpr gd gn gt gks 101 (by omega) hE1) rfl rfl ⟨bor_avM (j := 1) gd gn gt gks _ hml rfl, Bor.refl rfl, trivial⟩ rfl Free.val ?_
                          refine Y (ass rfl) rfl ?_
                          refine AOps.nil ?_
                          refine AWP.seq ?_
                          refine AWP.seq ?_
                          refine AWP.region ?_
                          refine Y (mv rfl) rfl ?_
                          refine Y (bn rfl rfl BinR.lss rfl) rfl ?_
                          refine AOps.nil ?_
                          refine AWP.condT rfl (fun h9a => ?_) (fun h9a => ?_)
                          · replace h9a := of_decide_eq_true h9a
                            omega
                          · replace h9a := of_decide_eq_false h9a
                            refine AWP.skip ?_
                            refine AWP.seq ?_
                            refine AWP.seq ?_
                            refine AWP.region ?_
                            refine Y (mv rfl) rfl ?_
                            refine Y (mv rfl) rfl ?_
                            refine Y (bn rfl rfl BinR.neq rfl) rfl ?_
                            refine AOps.nil ?_
                            refine AWP.condT rfl (fun h9b => ?_) (fun h9b => ?_)
                            · replace h9b := bne_iff_ne.1 h9b
                              exact absurd rfl h9b
                            · replace h9b := bne_eq_false_iff_eq.1 h9b
                              refine AWP.skip ?_
                              refine AWP.seq ?_
                              refine AWP.region ?_
                              refine Y (ass rfl) rfl ?_
                              refine AOps.nil ?_
                              refine AWP.ret ⟨.inl rfl, ?_⟩
                              exact RetIs.oneV rfl rfl (by (rfl) <;> rfl)
theorem exactLocalsAtN (k : Tr) (hb : k.bnd 9223372036854775807) (hkt : k.text.size ≤ 140737488355328) (p : List Int) (hp : p.length ≤ 140737488355328) (hneg : (1000000 : Int) - p.length < 0) : Fn 6 [k.av, .ro 1 (ints p) [] false] (bool true) := by
  obtain ⟨kd, nm, t, ks⟩ := k
  have hlp := ints_length p
  refine AF.intro Try.func6 nm6 rfl rfl rfl rfl fun w0 ok0 => ?_
  refine AWP.seq ?_
  refine AWP.region ?_
  refine AOps.box rfl rfl rfl rfl fun b1 => ?_
  refine Y (ass rfl) rfl ?_
  refine AOps.nil ?_
  refine AWP.seq ?_
  refine AWP.region ?_
  refine Y (mv rfl) rfl ?_
  refine Y (Yields.len_ro sl41 rfl) rfl ?_
  refine Y (bn rfl rfl (BinR.subI (by omega) (by omega)) rfl) rfl ?_
  refine Y (ass rfl) rfl ?_
  refine AOps.nil ?_
  refine AWP.seq ?_
  refine AWP.region ?_
  refine Y (Yields.load_ptr_agg (j := 0) kd24 rfl rfl rfl rfl) rfl ?_
  refine Y (mv rfl) rfl ?_
  refine AOps.callro (szV_lessExpr (.mk kd nm t ks) (1000000 - (ints p).length) hb (by omega) (by omega) (by omega)) rfl rfl rfl ?_
  refine Y (ass rfl) rfl ?_
  refine AOps.nil ?_
  refine AWP.seq ?_
  refine AWP.seq ?_
  refine AWP.region ?_
  refine Y (mv rfl) rfl ?_
  refine Y (bn rfl rfl BinR.lss rfl) rfl ?_
  refine AOps.nil ?_
  refine AWP.condT rfl (fun h => ?_) (fun h => ?_)
  · replace h := of_decide_eq_true h
    refine AWP.seq ?_
    refine AWP.region ?_
    refine Y (ass rfl) rfl ?_
    refine AOps.nil ?_
    refine AWP.ret ⟨.inl rfl, ?_⟩
    exact RetIs.oneV rfl rfl (by (rfl) <;> rfl)
  · replace h := of_decide_eq_false h
    omega
theorem exactLocalsAt (k : Tr) (hb : k.bnd 9223372036854775807) (hkt : k.text.size ≤ 140737488355328) (p : List Int) (hp : p.length ≤ 140737488355328) : Fn 6 [k.av, .ro 1 (ints p) [] false] (bool true) := by
  by_cases hneg : (1000000 : Int) - p.length < 0
  · exact exactLocalsAtN k hb hkt p hp hneg
  obtain ⟨kd, nm, t, ks⟩ := k
  have hlp := ints_length p
  refine AF.intro Try.func6 nm6 rfl rfl rfl rfl fun w0 ok0 => ?_
  refine AWP.seq ?_
  refine AWP.region ?_
  refine AOps.box rfl rfl rfl rfl fun b1 => ?_
  refine Y (ass rfl) rfl ?_
  refine AOps.nil ?_
  refine AWP.seq ?_
  refine AWP.region ?_
  refine Y (mv rfl) rfl ?_
  refine Y (Yields.len_ro sl41 rfl) rfl ?_
  refine Y (bn rfl rfl (BinR.subI (by omega) (by omega)) rfl) rfl ?_
  refine Y (ass rfl) rfl ?_
  refine AOps.nil ?_
  refine AWP.seq ?_
  refine AWP.region ?_
  refine Y (Yields.load_ptr_agg (j := 0) kd24 rfl rfl rfl rfl) rfl ?_
  refine Y (mv rfl) rfl ?_
  refine AOps.callro (szV_AFExpr (.mk kd nm t ks) (1000000 - (ints p).length) hb (by omega) (by omega)) rfl rfl rfl ?_
  refine Y (ass rfl) rfl ?_
  refine AOps.nil ?_
  refine AWP.seq ?_
  refine AWP.seq ?_
  refine AWP.region ?_
  refine Y (mv rfl) rfl ?_
  refine Y (bn rfl rfl BinR.lss rfl) rfl ?_
  refine AOps.nil ?_
  refine AWP.condT rfl (fun h => ?_) (fun h => ?_)
  · replace h := of_decide_eq_true h
    refine AWP.seq ?_
    refine AWP.region ?_
    refine Y (ass rfl) rfl ?_
    refine AOps.nil ?_
    refine AWP.ret ⟨.inl rfl, ?_⟩
    exact RetIs.oneV rfl rfl (by (rfl) <;> rfl)
  · replace h := of_decide_eq_false h
    have hk := szV_bnd _ (1000000 - (ints p).length) (by omega) (by omega) (by omega : 0 ≤ szV (.mk kd nm t ks) (1000000 - (ints p).length))
    have hz := sizeT_sz (.mk kd nm t ks) (1000000 - (ints p).length) (by omega) (by omega)
    have hz1 := hz
    rw [sizeT] at hz1
    have hz2 : sizeT (.mk kd nm t ks) ≤ 2000000 := by omega
    have hpl : p.length ≤ 1000000 := by omega
    have hll := locE_length (.mk kd nm t ks) p
    have sF := sLocalsAt_AF (.mk kd nm t ks) hk hz2 p hpl
    have iH := iLocalsAt_AH (.mk kd nm t ks) hk hz2 p hpl
    have iF := iLocalsAt_AF (.mk kd nm t ks) hk hz2 p hpl
    generalize locE (.mk kd nm t ks) p = gl at hll sF iH iF
    refine AWP.skip ?_
    refine AWP.seq ?_
    refine AWP.region ?_
    refine Y (Yields.load_ptr_agg (j := 0) kd24 rfl rfl rfl rfl) rfl ?_
    refine AOps.callro (to_AFExpr false (.mk kd nm t ks) hk) rfl rfl rfl ?_
    refine Y (mv rfl) rfl ?_
    refine AOps.callro (toIntS_AF false p hpl) rfl rfl rfl ?_
    refine AOps.callw (sF) rfl rfl ⟨Tr.wk_avR _ _, wkI _ _, trivial⟩ rfl ?_
    refine Y (ass rfl) rfl ?_
    refine AOps.nil ?_
    refine AWP.seq ?_
    refine AWP.region ?_
    refine Y (Yields.load_ptr_agg (j := 0) kd24 rfl rfl rfl rfl) rfl ?_
    refine AOps.callH (.inr rfl) (to_XExpr false (.mk kd nm t ks) hk) rfl rfl rfl (WkL.refl _) ?_
    rintro _ _ ⟨Bx, rfl, rfl⟩
    refine AOps.alloc rfl z30 rfl rfl fun b2 => ?_
    refine AOps.store (j := 0) kd30 rfl rfl rfl rfl rfl rfl ?_
    refine AOps.nil ?_
    refine AWP.seq ?_
    refine AWP.region ?_
    refine Y (mv rfl) rfl ?_
    refine AOps.callH (.inr rfl) (toIntS_AH false p hpl) rfl rfl rfl (WkL.refl _) ?_
    rintro _ _ ⟨Bp, rfl, rfl⟩
    refine Y (ass rfl) rfl ?_
    refine AOps.nil ?_
    refine AWP.seq ?_
    refine AWP.region ?_
    refine Y (Yields.load_ptr_agg (j := 1) kd30 rfl rfl rfl rfl) rfl ?_
    refine Y (mv rfl) rfl ?_
    refine AOps.callHb (.inr rfl) (iH) rfl rfl rfl ⟨bor_av _ kd nm t ks (Tr.view_avs' false ks) (j := 2) rfl, bor_ints (j := 0) rfl rfl, trivial⟩ (fun r hp' h => ownS.free h) ?_
    rintro _ _ ⟨Bg, rfl, rfl⟩
    refine Y (ass rfl) rfl ?_
    refine AOps.nil ?_
    refine AWP.seq ?_
    refine AWP.seq ?_
    refine AWP.region ?_
    refine Y (mv rfl) rfl ?_
    refine Y (mv rfl) rfl ?_
    refine AOps.call (eqStringS_AF gl gl [] [] false false (by omega)) rfl rfl ⟨bor_strs (j := 0) rfl rfl, Bor.refl rfl, trivial⟩ rfl Free.val ?_
    refine Y (Yields.not rfl) rfl ?_
    refine AOps.nil ?_
    refine AWP.condT rfl (fun h2a => ?_) (fun h2a => ?_)
    · skip
      simp at h2a
    · skip
      refine AWP.skip ?_
      refine AWP.seq ?_
      refine AWP.seq ?_
      refine AWP.prune (tm' := [(0, _), (1, _), (2, _), (4, _), (5, _), (21, _), (6, _), (7, _), (8, _), (9, _), (37, _)]) ⟨rfl, rfl, rfl, rfl, rfl, rfl, rfl, rfl, rfl, rfl, rfl, trivial⟩ ?_
      refine AWP.drawn mixed rfl rfl ?_
      refine D (tm' := [(7, _)]) ⟨rfl, trivial⟩ (DStep.yields (Yields.load_ptr_agg (j := 2) kd30 rfl rfl rfl rfl)) rfl ?_
      refine D (tm' := [(2, _)]) ⟨rfl, trivial⟩ (DStep.yields (Yields.load_ptr_agg (j := 4) kd24 rfl rfl rfl rfl)) rfl ?_
      refine D (tm' := [(39, _)]) ⟨rfl, trivial⟩ (DStep.callro (to_AFExpr false (.mk kd nm t ks) hk) rfl rfl) rfl ?_
      refine D (tm' := [(38, _), (40, _)]) ⟨rfl, rfl, trivial⟩ (DStep.call (intact_AFExpr (.mk kd nm t ks) hk) rfl ⟨bor_avR false kd nm t ks (j := 3) rfl, Bor.refl rfl, trivial⟩ rfl Free.val) rfl ?_
      refine D (tm' := [(41, _)]) ⟨rfl, trivial⟩ (DStep.yields (Yields.not rfl)) rfl ?_
      refine DOps.nil ?_
      refine AWP.condT rfl (fun h3 => ?_) (fun h3 => ?_)
      · skip
        simp at h3
      · skip
        refine AWP.skip ?_
        refine AWP.seq ?_
        refine AWP.seq ?_
        refine AWP.region ?_
        refine Y (mv rfl) rfl ?_
        refine Y (mv rfl) rfl ?_
        refine AOps.callro (toIntS_AF false p hpl) rfl rfl rfl ?_
        refine AOps.call (intactIntS_AF p hpl) rfl rfl ⟨bor_intsR (j := 1) rfl, Bor.refl rfl, trivial⟩ rfl Free.val ?_
        refine Y (Yields.not rfl) rfl ?_
        refine AOps.nil ?_
        refine AWP.condT rfl (fun h3b => ?_) (fun h3b => ?_)
        · skip
          simp at h3b
        · skip
          refine AWP.skip ?_
          refine AWP.seq ?_
          refine AWP.region ?_
          refine Y (ass rfl) rfl ?_
          refine AOps.nil ?_
          refine AWP.seq ?_
          refine AWP.region ?_
          refine Y (Yields.load_ptr_agg (j := 2) kd30 rfl rfl rfl rfl) rfl ?_
          refine Y (mv rfl) rfl ?_
          refine AOps.leads (Leads.pull 3 rfl) ?_
          refine AOps.callH (.inr rfl) (mark_XExpr (Tr.spare false) kd nm t ks 101 Bx (by omega) hk) rfl rfl rfl (WkL.refl _) ?_
          rintro _ _ ⟨rfl, rfl⟩
          have hmx := markL_le ks 101
          refine Y (ass rfl) rfl ?_
          refine AOps.nil ?_
          refine AWP.seq ?_
          refine AWP.region ?_
          refine Y (mv rfl) rfl ?_
          refine Y (mv rfl) rfl ?_
          refine AOps.leads (Leads.pull 2 rfl) ?_
          refine AOps.callH (.inr rfl) (markIntS_AH p _ _ Bp (markL ks 101).2 (by omega)) rfl rfl rfl (WkL.refl _) ?_
          rintro _ _ ⟨rfl, rfl⟩
          refine Y (ass rfl) rfl ?_
          refine AOps.nil ?_
          refine AWP.seq ?_
          refine AWP.seq ?_
          refine AWP.region ?_
          refine Y (mv rfl) rfl ?_
          refine Y (bn rfl rfl BinR.lss rfl) rfl ?_
          refine Y (mv rfl) rfl ?_
          refine AOps.split 56 rfl (fun h4 => ?_) (fun h4 => ?_)
          · replace h4 := of_decide_eq_true h4
            omega
          · replace h4 := of_decide_eq_false h4
            refine AOps.on rfl rfl ?_
            refine Y (mv rfl) rfl ?_
            refine AOps.on rfl rfl ?_
            refine Y (mv rfl) rfl ?_
            refine AOps.on rfl rfl ?_
            refine AOps.call (eqStringS_AF gl gl [] [] false false (by omega)) rfl rfl ⟨bor_strs (j := 2) rfl rfl, Bor.refl rfl, trivial⟩ rfl Free.val ?_
            refine AOps.on rfl rfl ?_
            refine Y (Yields.not rfl) rfl ?_
            refine Y (Yields.pick_false rfl rfl) rfl ?_
            refine AOps.nil ?_
            refine AWP.condT rfl (fun h5 => ?_) (fun h5 => ?_)
            · skip
              simp at h5
            · skip
              refine AWP.skip ?_
              refine AWP.seq ?_
              refine AWP.region ?_
              refine Y (ass rfl) rfl ?_
              refine AOps.nil ?_
              refine AWP.seq ?_
              refine AWP.region ?_
              refine Y (mv rfl) rfl ?_
              refine Y (mv rfl) rfl ?_
              refine AOps.leads (Leads.pull 2 rfl) ?_
              refine AOps.callH (.inr rfl) (markStringS_AH gl Bg 101 (by omega)) rfl rfl rfl (WkL.refl _) ?_
              rintro _ _ ⟨rfl, rfl⟩
              refine Y (ass rfl) rfl ?_
              refine AOps.nil ?_
              refine AWP.seq ?_
              refine AWP.region ?_
              refine Y (ass rfl) rfl ?_
              refine AOps.nil ?_
              refine AWP.seq ?_
              refine AWP.region ?_
              refine Y (mv rfl) rfl ?_
              refine Y (mv rfl) rfl ?_
              refine AOps.call (heldStringS_AF gl 101 (by omega)) rfl rfl ⟨bor_strs (j := 0) rfl (markStrs_length _ _).symm, Bor.refl rfl, trivial⟩ rfl Free.val ?_
              refine Y (ass rfl) rfl ?_
              refine AOps.nil ?_
              refine AWP.seq ?_
              refine AWP.seq ?_
              refine AWP.region ?_
              refine Y (mv rfl) rfl ?_
              refine Y (bn rfl rfl BinR.lss rfl) rfl ?_
              refine AOps.nil ?_
              refine AWP.condT rfl (fun h6 => ?_) (fun h6 => ?_)
              · replace h6 := of_decide_eq_true h6
                omega
              · replace h6 := of_decide_eq_false h6
                refine AWP.skip ?_
                refine AWP.seq ?_
                refine AWP.seq ?_
                refine AWP.region ?_
                refine Y (mv rfl) rfl ?_
                refine Y (mv rfl) rfl ?_
                refine Y (bn rfl rfl BinR.neq rfl) rfl ?_
                refine AOps.nil ?_
                refine AWP.condT rfl (fun h7 => ?_) (fun h7 => ?_)
                · replace h7 := bne_iff_ne.1 h7
                  exact absurd rfl h7
                · replace h7 := bne_eq_false_iff_eq.1 h7
                  refine AWP.skip ?_
                  refine AWP.seq ?_
                  refine AWP.region ?_
                  refine Y (Yields.load_ptr_agg (j := 4) kd24 rfl rfl rfl rfl) rfl ?_
                  refine AOps.callro (to_AFExpr true (.mk kd nm t ks) hk) rfl rfl rfl ?_
                  refine Y (mv rfl) rfl ?_
                  refine AOps.callro (toIntS_AF true p hpl) rfl rfl rfl ?_
                  refine AOps.callw (iF) rfl rfl ⟨Tr.wk_avR _ _, wkI _ _, trivial⟩ rfl ?_
                  refine Y (ass rfl) rfl ?_
                  refine AOps.nil ?_
                  refine AWP.seq ?_
                  refine AWP.seq ?_
                  refine AWP.region ?_
                  refine Y (mv rfl) rfl ?_
                  refine Y (mv rfl) rfl ?_
                  refine AOps.callro (eqStringS_AF gl gl [] [] false false (by omega)) rfl rfl rfl ?_
                  refine Y (Yields.not rfl) rfl ?_
                  refine AOps.nil ?_
                  refine AWP.condT rfl (fun h8 => ?_) (fun h8 => ?_)
                  · skip
                    simp at h8
                  · skip
                    refine AWP.skip ?_
                    refine AWP.seq ?_
                    refine AWP.region ?_
                    refine Y (ass rfl) rfl ?_
                    refine AOps.nil ?_
                    refine AWP.seq ?_
                    refine AWP.region ?_
                    refine Y (mv rfl) rfl ?_
                    refine Y (mv rfl) rfl ?_
                    refine AOps.call (heldStringS_AF gl 101 (by omega)) rfl rfl ⟨bor_strs (j := 0) rfl (markStrs_length _ _).symm, Bor.refl rfl, trivial⟩ rfl Free.val ?_
                    refine Y (ass rfl) rfl ?_
                    refine AOps.nil ?_
                    refine AWP.seq ?_
                    refine AWP.seq ?_
                    refine AWP.region ?_
                    refine Y (mv rfl) rfl ?_
                    refine Y (bn rfl rfl BinR.lss rfl) rfl ?_
                    refine AOps.nil ?_
                    refine AWP.condT rfl (fun h9 => ?_) (fun h9 => ?_)
                    · replace h9 := of_decide_eq_true h9
                      omega
                    · replace h9 := of_decide_eq_false h9
                      refine AWP.skip ?_
                      refine AWP.seq ?_
                      refine AWP.seq ?_
                      refine AWP.region ?_
                      refine Y (mv rfl) rfl ?_
                      refine Y (mv rfl) rfl ?_
                      refine Y (bn rfl rfl BinR.neq rfl) rfl ?_
                      refine AOps.nil ?_
                      refine AWP.condT rfl (fun h10 => ?_) (fun h10 => ?_)
                      · replace h10 := bne_iff_ne.1 h10
                        exact absurd rfl h10
                      · replace h10 := bne_eq_false_iff_eq.1 h10
                        refine AWP.skip ?_
                        refine AWP.seq ?_
                        refine AWP.region ?_
                        refine Y (ass rfl) rfl ?_
                        refine AOps.nil ?_
                        refine AWP.ret ⟨.inl rfl, ?_⟩
                        exact RetIs.oneV rfl rfl (by (rfl) <;> rfl)
theorem exactExprPutN (k : Tr) (hb : k.bnd 9223372036854775807) (hkt : k.text.size ≤ 140737488355328) (p : List Int) (hp : p.length ≤ 140737488355328) (x : Tr) (hxb : x.bnd 9223372036854775807) (hneg : (1000000 : Int) - p.length < 0) : Fn 7 [k.av, .ro 1 (ints p) [] false, x.av] (bool true) := by
  obtain ⟨kd, nm, t, ks⟩ := k
  obtain ⟨xd, xn, xt, xks⟩ := x
  have hlp := ints_length p
  refine AF.intro Try.func7 nm7 rfl rfl rfl rfl fun w0 ok0 => ?_
  refine AWP.seq ?_
  refine AWP.region ?_
  refine AOps.box rfl rfl rfl rfl fun b1 => ?_
  refine AOps.box rfl rfl rfl rfl fun b2 => ?_
  refine Y (ass rfl) rfl ?_
  refine AOps.nil ?_
  refine AWP.seq ?_
  refine AWP.region ?_
  refine Y (mv rfl) rfl ?_
  refine Y (Yields.len_ro sl41 rfl) rfl ?_
  refine Y (bn rfl rfl (BinR.subI (by omega) (by omega)) rfl) rfl ?_
  refine Y (ass rfl) rfl ?_
  refine AOps.nil ?_
  refine AWP.seq ?_
  refine AWP.region ?_
  refine Y (Yields.load_ptr_agg (j := 1) kd24 rfl rfl rfl rfl) rfl ?_
  refine Y (mv rfl) rfl ?_
  refine AOps.callro (szV_lessExpr (.mk kd nm t ks) (1000000 - (ints p).length) hb (by omega) (by omega) (by omega)) rfl rfl rfl ?_
  refine Y (ass rfl) rfl ?_
  refine AOps.nil ?_
  refine AWP.seq ?_
  refine AWP.seq ?_
  refine AWP.region ?_
  refine Y (mv rfl) rfl ?_
  refine Y (bn rfl rfl BinR.lss rfl) rfl ?_
  refine AOps.nil ?_
  refine AWP.condT rfl (fun h => ?_) (fun h => ?_)
  · replace h := of_decide_eq_true h
    refine AWP.seq ?_
    refine AWP.region ?_
    refine Y (ass rfl) rfl ?_
    refine AOps.nil ?_
    refine AWP.ret ⟨.inl rfl, ?_⟩
    exact RetIs.oneV rfl rfl (by (rfl) <;> rfl)
  · replace h := of_decide_eq_false h
    omega
theorem exactExprPut (k : Tr) (hb : k.bnd 9223372036854775807) (hkt : k.text.size ≤ 140737488355328) (p : List Int) (hp : p.length ≤ 140737488355328) (x : Tr) (hxb : x.bnd 9223372036854775807) : Fn 7 [k.av, .ro 1 (ints p) [] false, x.av] (bool true) := by
  by_cases hneg : (1000000 : Int) - p.length < 0
  · exact exactExprPutN k hb hkt p hp x hxb hneg
  obtain ⟨kd, nm, t, ks⟩ := k
  obtain ⟨xd, xn, xt, xks⟩ := x
  have hlp := ints_length p
  refine AF.intro Try.func7 nm7 rfl rfl rfl rfl fun w0 ok0 => ?_
  refine AWP.seq ?_
  refine AWP.region ?_
  refine AOps.box rfl rfl rfl rfl fun b1 => ?_
  refine AOps.box rfl rfl rfl rfl fun b2 => ?_
  refine Y (ass rfl) rfl ?_
  refine AOps.nil ?_
  refine AWP.seq ?_
  refine AWP.region ?_
  refine Y (mv rfl) rfl ?_
  refine Y (Yields.len_ro sl41 rfl) rfl ?_
  refine Y (bn rfl rfl (BinR.subI (by omega) (by omega)) rfl) rfl ?_
  refine Y (ass rfl) rfl ?_
  refine AOps.nil ?_
  refine AWP.seq ?_
  refine AWP.region ?_
  refine Y (Yields.load_ptr_agg (j := 1) kd24 rfl rfl rfl rfl) rfl ?_
  refine Y (mv rfl) rfl ?_
  refine AOps.callro (szV_AFExpr (.mk kd nm t ks) (1000000 - (ints p).length) hb (by omega) (by omega)) rfl rfl rfl ?_
  refine Y (ass rfl) rfl ?_
  refine AOps.nil ?_
  refine AWP.seq ?_
  refine AWP.seq ?_
  refine AWP.region ?_
  refine Y (mv rfl) rfl ?_
  refine Y (bn rfl rfl BinR.lss rfl) rfl ?_
  refine AOps.nil ?_
  refine AWP.condT rfl (fun h => ?_) (fun h => ?_)
  · replace h := of_decide_eq_true h
    refine AWP.seq ?_
    refine AWP.region ?_
    refine Y (ass rfl) rfl ?_
    refine AOps.nil ?_
    refine AWP.ret ⟨.inl rfl, ?_⟩
    exact RetIs.oneV rfl rfl (by (rfl) <;> rfl)
  · replace h := of_decide_eq_false h
    have hk := szV_bnd _ (1000000 - (ints p).length) (by omega) (by omega) (by omega : 0 ≤ szV (.mk kd nm t ks) (1000000 - (ints p).length))
    have hz := sizeT_sz (.mk kd nm t ks) (1000000 - (ints p).length) (by omega) (by omega)
    have hle := szV_le (.mk kd nm t ks) (1000000 - (ints p).length) (by omega)
    refine AWP.skip ?_
    refine AWP.seq ?_
    refine AWP.region ?_
    refine Y (Yields.load_ptr_agg (j := 0) kd24 rfl rfl rfl rfl) rfl ?_
    refine Y (mv rfl) rfl ?_
    refine AOps.callro (szV_AFExpr (.mk xd xn xt xks) (szV (.mk kd nm t ks) (1000000 - (ints p).length)) hxb (by omega) (by omega)) rfl rfl rfl ?_
    refine Y (ass rfl) rfl ?_
    refine AOps.nil ?_
    refine AWP.seq ?_
    refine AWP.seq ?_
    refine AWP.region ?_
    refine Y (mv rfl) rfl ?_
    refine Y (bn rfl rfl BinR.lss rfl) rfl ?_
    refine AOps.nil ?_
    refine AWP.condT rfl (fun h' => ?_) (fun h' => ?_)
    · replace h' := of_decide_eq_true h'
      refine AWP.seq ?_
      refine AWP.region ?_
      refine Y (ass rfl) rfl ?_
      refine AOps.nil ?_
      refine AWP.ret ⟨.inl rfl, ?_⟩
      exact RetIs.oneV rfl rfl (by (rfl) <;> rfl)
    · replace h' := of_decide_eq_false h'
      have hk' := szV_bnd (.mk xd xn xt xks) (szV (.mk kd nm t ks) (1000000 - (ints p).length)) (by omega) (by omega) (by omega)
      have hz' := sizeT_sz (.mk xd xn xt xks) (szV (.mk kd nm t ks) (1000000 - (ints p).length)) (by omega) (by omega)
      have hz1 := hz
      have hz2 := hz'
      rw [sizeT] at hz1 hz2
      have hzz : sizeT (.mk kd nm t ks) + sizeT (.mk xd xn xt xks) ≤ 2000000 := by omega
      have hpl : p.length ≤ 1000000 := by omega
      have hE := putE_facts (.mk kd nm t ks) (.mk xd xn xt xks) p hk hk'
      have sF := sExprPut_AF (.mk kd nm t ks) (.mk xd xn xt xks) hk hzz hk' p hpl
      have iH := iExprPut_AH (.mk kd nm t ks) (.mk xd xn xt xks) hk hzz hk' p hpl
      have iF := iExprPut_AF (.mk kd nm t ks) (.mk xd xn xt xks) hk hzz hk' p hpl
      generalize putE (.mk kd nm t ks) p (.mk xd xn xt xks) = gk at hE sF iH iF
      generalize putB (.mk kd nm t ks) p (.mk xd xn xt xks) = gb at sF iH iF
      obtain ⟨gd, gn, gt, gks⟩ := gk
      have hE1 := hE.1
      have hEs := hE.2
      rw [sizeT] at hEs
      refine AWP.skip ?_
      refine AWP.seq ?_
      refine AWP.prune (tm' := [(0, _), (1, _), (2, _), (3, _), (5, _), (6, _), (7, _), (27, _), (32, _)]) ⟨rfl, rfl, rfl, rfl, rfl, rfl, rfl, rfl, rfl, trivial⟩ ?_
      refine AWP.drawnM [] [.pure 0, .pure 1, .pure 2, .pure 3, .pure 4, .pure 5, .pure 6, .pure 7, .pure 8, .pure 9, .pure 10, .spine 11 [10] [0, 1, 2, 3, 4, 5, 6, 7, 8, 10], .pure 12] mixed rfl rfl rfl rfl rfl ?_
      refine DM.pure (GX (tm' := [(3, _)]) rfl ⟨rfl, trivial⟩ rfl (DStep.yields (Yields.load_ptr_agg (j := 1) kd24 rfl rfl rfl rfl)) rfl) ?_
      refine DM.pure (GX (tm' := [(34, _)]) rfl ⟨rfl, trivial⟩ rfl (DStep.callro (to_AFExpr false (.mk kd nm t ks) hk) rfl rfl) rfl) ?_
      refine DM.pure (GX (tm' := [(1, _)]) rfl ⟨rfl, trivial⟩ rfl (DStep.yields (mv rfl)) rfl) ?_
      refine DM.pure (GX (tm' := [(36, _)]) rfl ⟨rfl, trivial⟩ rfl (DStep.callro (toIntS_AF false p hpl) rfl rfl) rfl) ?_
      refine DM.pure (GX (tm' := [(5, _)]) rfl ⟨rfl, trivial⟩ rfl (DStep.yields (Yields.load_ptr_agg (j := 0) kd24 rfl rfl rfl rfl)) rfl) ?_
      refine DM.pure (GX (tm' := [(38, _)]) rfl ⟨rfl, trivial⟩ rfl (DStep.callro (to_AFExpr false (.mk xd xn xt xks) hk') rfl rfl) rfl) ?_
      refine DM.pure (GX (tm' := [(35, _), (37, _), (39, _)]) rfl ⟨rfl, rfl, rfl, trivial⟩ rfl (DStep.callw (sF) rfl ⟨Tr.wk_avR _ _, wkI _ _, Tr.wk_avR _ _, trivial⟩ rfl) rfl) ?_
      refine DM.pure (GX (tm' := [(40, _)]) rfl ⟨rfl, trivial⟩ rfl (DStep.yields (mv rfl)) rfl) ?_
      refine DM.pure (GX (tm' := [(33, _)]) rfl ⟨rfl, trivial⟩ rfl (DStep.yields (Yields.extract rfl rfl)) rfl) ?_
      refine DM.pure (GX (tm' := [(33, _)]) rfl ⟨rfl, trivial⟩ rfl (DStep.yields (Yields.extract rfl rfl)) rfl) ?_
      refine DM.pure (GXs (tm' := []) rfl trivial rfl rfl (DStepU.alloc z30 rfl rfl) rfl) ?_
      refine DM.sp rfl rfl ?_
      refine DOpen.optr rfl fun b3 => ?_
      refine DOpen.nil fun _ _ _ => ?_
      refine AOps.subT (tm' := [(8, _), (41, _)]) ⟨rfl, rfl, trivial⟩ ?_
      refine AOps.store (j := 0) kd30 rfl rfl rfl rfl rfl rfl ?_
      refine AOps.nil ?_
      refine SpK.mk0 ?_ ?_
      · skip
        refine Stab.skip rfl ?_
        refine Stab.keep (GX (tm' := [(33, _)]) rfl ⟨rfl, trivial⟩ rfl (DStep.yields (Yields.extract rfl rfl)) rfl) ?_
        refine Stab.skip rfl ?_
        refine Stab.skip rfl ?_
        refine Stab.skip rfl ?_
        refine Stab.skip rfl ?_
        refine Stab.skip rfl ?_
        refine Stab.skip rfl ?_
        refine Stab.skip rfl ?_
        refine Stab.skip rfl ?_
        refine Stab.skip rfl ?_
        exact trivial
      refine DM.pure (GX (tm' := [(42, _)]) rfl ⟨rfl, trivial⟩ rfl (DStep.yields (ass rfl)) rfl) ?_
      refine DM.nil ?_
      refine AWP.seq ?_
      refine AWP.region ?_
      refine Y (Yields.load_ptr_agg (j := 2) kd24 rfl rfl rfl rfl) rfl ?_
      refine AOps.callH (.inr rfl) (to_XExpr false (.mk kd nm t ks) hk) rfl rfl rfl (WkL.refl _) ?_
      rintro _ _ ⟨Bx, rfl, rfl⟩
      refine AOps.alloc rfl z30 rfl rfl fun b4 => ?_
      refine AOps.store (j := 0) kd30 rfl rfl rfl rfl rfl rfl ?_
      refine AOps.nil ?_
      refine AWP.seq ?_
      refine AWP.region ?_
      refine Y (mv rfl) rfl ?_
      refine AOps.callH (.inr rfl) (toIntS_AH false p hpl) rfl rfl rfl (WkL.refl _) ?_
      rintro _ _ ⟨Bp, rfl, rfl⟩
      refine Y (ass rfl) rfl ?_
      refine AOps.nil ?_
      refine AWP.seq ?_
      refine AWP.region ?_
      refine Y (Yields.load_ptr_agg (j := 4) kd24 rfl rfl rfl rfl) rfl ?_
      refine AOps.callH (.inr rfl) (to_XExpr false (.mk xd xn xt xks) hk') rfl rfl rfl (WkL.refl _) ?_
      rintro _ _ ⟨By, rfl, rfl⟩
      refine AOps.alloc rfl z30 rfl rfl fun b5 => ?_
      refine AOps.store (j := 0) kd30 rfl rfl rfl rfl rfl rfl ?_
      refine AOps.nil ?_
      refine AWP.seq ?_
      refine AWP.region ?_
      refine Y (Yields.load_ptr_agg (j := 3) kd30 rfl rfl rfl rfl) rfl ?_
      refine Y (mv rfl) rfl ?_
      refine Y (Yields.load_ptr_agg (j := 0) kd30 rfl rfl rfl rfl) rfl ?_
      refine AOps.callHb (.inr rfl) (iH) rfl rfl rfl ⟨bor_av _ kd nm t ks (Tr.view_avs' false ks) (j := 4) rfl, bor_ints (j := 2) rfl rfl, bor_av _ xd xn xt xks (Tr.view_avs' false xks) (j := 1) rfl, trivial⟩ (fun r hp' h => ownTP.free h) ?_
      rintro _ _ ⟨Bg, rfl, rfl⟩
      refine Y (mv rfl) rfl ?_
      refine Y (Yields.extract rfl rfl) rfl ?_
      refine Y (Yields.extract rfl rfl) rfl ?_
      refine AOps.alloc rfl z30 rfl rfl fun b6 => ?_
      refine AOps.store (j := 0) kd30 rfl rfl rfl rfl rfl rfl ?_
      refine Y (ass rfl) rfl ?_
      refine AOps.nil ?_
      refine AWP.seq ?_
      refine AWP.seq ?_
      refine AWP.region ?_
      refine Y (Yields.load_ptr_agg (j := 0) kd30 rfl rfl rfl rfl) rfl ?_
      refine Y (Yields.load_ptr_agg (j := 7) kd30 rfl rfl rfl rfl) rfl ?_
      refine AOps.call (gq_XExpr (.mk gd gn gt gks) hE1) rfl rfl ⟨bor_avT (.mk gd gn gt gks) (j := 1) rfl, Bor.refl rfl, trivial⟩ rfl Free.val ?_
      refine Y (Yields.not rfl) rfl ?_
      refine Y (mv rfl) rfl ?_
      refine AOps.split 60 rfl (fun h2a => ?_) (fun h2a => ?_)
      · skip
        simp at h2a
      · skip
        refine AOps.on rfl rfl ?_
        refine Y (mv rfl) rfl ?_
        refine AOps.on rfl rfl ?_
        refine Y (mv rfl) rfl ?_
        refine AOps.on rfl rfl ?_
        refine Y (bn rfl rfl (BinR.bneq Try.underlying4) rfl) rfl ?_
        refine Y (Yields.pick_false rfl rfl) rfl ?_
        refine AOps.nil ?_
        refine AWP.condT rfl (fun h2b => ?_) (fun h2b => ?_)
        · skip
          simp at h2b
        · skip
          refine AWP.skip ?_
          refine AWP.seq ?_
          refine AWP.seq ?_
          refine AWP.prune (tm' := [(0, _), (1, _), (2, _), (3, _), (5, _), (6, _), (7, _), (27, _), (32, _), (8, _), (9, _), (10, _), (11, _), (12, _), (13, _), (14, _), (64, _)]) ⟨rfl, rfl, rfl, rfl, rfl, rfl, rfl, rfl, rfl, rfl, rfl, rfl, rfl, rfl, rfl, rfl, rfl, trivial⟩ ?_
          refine AWP.drawn mixed rfl rfl ?_
          refine D (tm' := [(10, _)]) ⟨rfl, trivial⟩ (DStep.yields (Yields.load_ptr_agg (j := 5) kd30 rfl rfl rfl rfl)) rfl ?_
          refine D (tm' := [(3, _)]) ⟨rfl, trivial⟩ (DStep.yields (Yields.load_ptr_agg (j := 9) kd24 rfl rfl rfl rfl)) rfl ?_
          refine D (tm' := [(66, _)]) ⟨rfl, trivial⟩ (DStep.callro (to_AFExpr false (.mk kd nm t ks) hk) rfl rfl) rfl ?_
          refine D (tm' := [(65, _), (67, _)]) ⟨rfl, rfl, trivial⟩ (DStep.call (intact_AFExpr (.mk kd nm t ks) hk) rfl ⟨bor_avR false kd nm t ks (j := 6) rfl, Bor.refl rfl, trivial⟩ rfl Free.val) rfl ?_
          refine D (tm' := [(68, _)]) ⟨rfl, trivial⟩ (DStep.yields (Yields.not rfl)) rfl ?_
          refine DOps.nil ?_
          refine AWP.condT rfl (fun h3 => ?_) (fun h3 => ?_)
          · skip
            simp at h3
          · skip
            refine AWP.skip ?_
            refine AWP.seq ?_
            refine AWP.seq ?_
            refine AWP.region ?_
            refine Y (mv rfl) rfl ?_
            refine Y (mv rfl) rfl ?_
            refine AOps.callro (toIntS_AF false p hpl) rfl rfl rfl ?_
            refine AOps.call (intactIntS_AF p hpl) rfl rfl ⟨bor_intsR (j := 4) rfl, Bor.refl rfl, trivial⟩ rfl Free.val ?_
            refine Y (Yields.not rfl) rfl ?_
            refine AOps.nil ?_
            refine AWP.condT rfl (fun h3b => ?_) (fun h3b => ?_)
            · skip
              simp at h3b
            · skip
              refine AWP.skip ?_
              refine AWP.seq ?_
              refine AWP.seq ?_
              refine AWP.prune (tm' := [(0, _), (1, _), (2, _), (3, _), (5, _), (6, _), (7, _), (27, _), (32, _), (8, _), (9, _), (10, _), (11, _), (12, _), (13, _), (14, _), (64, _), (69, _), (74, _)]) ⟨rfl, rfl, rfl, rfl, rfl, rfl, rfl, rfl, rfl, rfl, rfl, rfl, rfl, rfl, rfl, rfl, rfl, rfl, rfl, trivial⟩ ?_
              refine AWP.drawn mixed rfl rfl ?_
              refine D (tm' := [(12, _)]) ⟨rfl, trivial⟩ (DStep.yields (Yields.load_ptr_agg (j := 2) kd30 rfl rfl rfl rfl)) rfl ?_
              refine D (tm' := [(5, _)]) ⟨rfl, trivial⟩ (DStep.yields (Yields.load_ptr_agg (j := 8) kd24 rfl rfl rfl rfl)) rfl ?_
              refine D (tm' := [(76, _)]) ⟨rfl, trivial⟩ (DStep.callro (to_AFExpr false (.mk xd xn xt xks) hk') rfl rfl) rfl ?_
              refine D (tm' := [(75, _), (77, _)]) ⟨rfl, rfl, trivial⟩ (DStep.call (intact_AFExpr (.mk xd xn xt xks) hk') rfl ⟨bor_avR false xd xn xt xks (j := 3) rfl, Bor.refl rfl, trivial⟩ rfl Free.val) rfl ?_
              refine D (tm' := [(78, _)]) ⟨rfl, trivial⟩ (DStep.yields (Yields.not rfl)) rfl ?_
              refine DOps.nil ?_
              refine AWP.condT rfl (fun h3c => ?_) (fun h3c => ?_)
              · skip
                simp at h3c
              · skip
                refine AWP.skip ?_
                refine AWP.seq ?_
                refine AWP.region ?_
                refine Y (ass rfl) rfl ?_
                refine AOps.nil ?_
                refine AWP.seq ?_
                refine AWP.region ?_
                refine Y (Yields.load_ptr_agg (j := 5) kd30 rfl rfl rfl rfl) rfl ?_
                refine Y (mv rfl) rfl ?_
                refine AOps.leads (Leads.pull 6 rfl) ?_
                refine AOps.callH (.inr rfl) (mark_XExpr (Tr.spare false) kd nm t ks 101 Bx (by omega) hk) rfl rfl rfl (WkL.refl _) ?_
                rintro _ _ ⟨rfl, rfl⟩
                have hmx := markL_le ks 101
                refine Y (ass rfl) rfl ?_
                refine AOps.nil ?_
                refine AWP.seq ?_
                refine AWP.region ?_
                refine Y (mv rfl) rfl ?_
                refine Y (mv rfl) rfl ?_
                refine AOps.leads (Leads.pull 5 rfl) ?_
                refine AOps.callH (.inr rfl) (markIntS_AH p _ _ Bp (markL ks 101).2 (by omega)) rfl rfl rfl (WkL.refl _) ?_
                rintro _ _ ⟨rfl, rfl⟩
                refine Y (ass rfl) rfl ?_
                refine AOps.nil ?_
                refine AWP.seq ?_
                refine AWP.region ?_
                refine Y (Yields.load_ptr_agg (j := 4) kd30 rfl rfl rfl rfl) rfl ?_
                refine Y (mv rfl) rfl ?_
                refine AOps.leads (Leads.pull 5 rfl) ?_
                refine AOps.callH (.inr rfl) (mark_XExpr (Tr.spare false) xd xn xt xks _ By (by omega) hk') rfl rfl rfl (WkL.refl _) ?_
                rintro _ _ ⟨rfl, rfl⟩
                have hmy := markL_le xks ((markL ks 101).2 + p.length)
                refine Y (ass rfl) rfl ?_
                refine AOps.nil ?_
                refine AWP.seq ?_
                refine AWP.seq ?_
                refine AWP.region ?_
                refine Y (mv rfl) rfl ?_
                refine Y (bn rfl rfl BinR.lss rfl) rfl ?_
                refine Y (mv rfl) rfl ?_
                refine AOps.split 91 rfl (fun h4 => ?_) (fun h4 => ?_)
                · replace h4 := of_decide_eq_true h4
                  omega
                · replace h4 := of_decide_eq_false h4
                  refine AOps.on rfl rfl ?_
                  refine Y (Yields.load_ptr_agg (j := 3) kd30 rfl rfl rfl rfl) rfl ?_
                  refine AOps.on rfl rfl ?_
                  refine Y (Yields.load_ptr_agg (j := 7) kd30 rfl rfl rfl rfl) rfl ?_
                  refine AOps.on rfl rfl ?_
                  refine AOps.call (gq_XExpr (.mk gd gn gt gks) hE1) rfl rfl ⟨bor_avT (.mk gd gn gt gks) (j := 4) rfl, Bor.refl rfl, trivial⟩ rfl Free.val ?_
                  refine AOps.on rfl rfl ?_
                  refine Y (Yields.not rfl) rfl ?_
                  refine Y (Yields.pick_false rfl rfl) rfl ?_
                  refine Y (mv rfl) rfl ?_
                  refine AOps.split 97 rfl (fun h5a => ?_) (fun h5a => ?_)
                  · skip
                    simp at h5a
                  · skip
                    refine AOps.on rfl rfl ?_
                    refine Y (mv rfl) rfl ?_
                    refine AOps.on rfl rfl ?_
                    refine Y (mv rfl) rfl ?_
                    refine AOps.on rfl rfl ?_
                    refine Y (bn rfl rfl (BinR.bneq Try.underlying4) rfl) rfl ?_
                    refine Y (Yields.pick_false rfl rfl) rfl ?_
                    refine AOps.nil ?_
                    refine AWP.condT rfl (fun h5b => ?_) (fun h5b => ?_)
                    · skip
                      simp at h5b
                    · skip
                      refine AWP.skip ?_
                      refine AWP.seq ?_
                      refine AWP.region ?_
                      refine Y (ass rfl) rfl ?_
                      refine AOps.nil ?_
                      refine AWP.seq ?_
                      refine AWP.region ?_
                      refine Y (Yields.load_ptr_agg (j := 3) kd30 rfl rfl rfl rfl) rfl ?_
                      refine Y (mv rfl) rfl ?_
                      refine AOps.leads (Leads.pull 4 rfl) ?_
                      refine AOps.callH (.inr rfl) (mark_TExpr gd gn gt gks 101 Bg (by omega) hE1) rfl rfl rfl (WkL.refl _) ?_
                      rintro _ _ ⟨rfl, rfl⟩
                      have hml := markL_length gks 101
                      refine Y (ass rfl) rfl ?_
                      refine AOps.nil ?_
                      refine AWP.seq ?_
                      refine AWP.region ?_
                      refine Y (ass rfl) rfl ?_
                      refine AOps.nil ?_
                      refine AWP.seq ?_
                      refine AWP.region ?_
                      refine Y (Yields.load_ptr_agg (j := 4) kd30 rfl rfl rfl rfl) rfl ?_
                      refine Y (mv rfl) rfl ?_
                      refine AOps.call (held_XExpr gd gn gt gks 101 (by omega) hE1) rfl rfl ⟨bor_avM (j := 0) gd gn gt gks _ hml rfl, Bor.refl rfl, trivial⟩ rfl Free.val ?_
                      refine Y (ass rfl) rfl ?_
                      refine AOps.nil ?_
                      refine AWP.seq ?_
                      refine AWP.seq ?_
                      refine AWP.region ?_
                      refine Y (mv rfl) rfl ?_
                      refine Y (bn rfl rfl BinR.lss rfl) rfl ?_
                      refine AOps.nil ?_
                      refine AWP.condT rfl (fun h6a => ?_) (fun h6a => ?_)
                      · replace h6a := of_decide_eq_true h6a
                        omega
                      · replace h6a := of_decide_eq_false h6a
                        refine AWP.skip ?_
                        refine AWP.seq ?_
                        refine AWP.seq ?_
                        refine AWP.region ?_
                        refine Y (mv rfl) rfl ?_
                        refine Y (mv rfl) rfl ?_
                        refine Y (bn rfl rfl BinR.neq rfl) rfl ?_
                        refine AOps.nil ?_
                        refine AWP.condT rfl (fun h6b => ?_) (fun h6b => ?_)
                        · replace h6b := bne_iff_ne.1 h6b
                          exact absurd rfl h6b
                        · replace h6b := bne_eq_false_iff_eq.1 h6b
                          refine AWP.skip ?_
                          refine AWP.seq ?_
                          refine AWP.prune (tm' := [(0, _), (1, _), (2, _), (3, _), (5, _), (6, _), (7, _), (27, _), (32, _), (8, _), (9, _), (10, _), (11, _), (12, _), (13, _), (14, _), (64, _), (69, _), (74, _), (79, _), (15, _), (101, _), (16, _), (17, _), (109, _), (112, _)]) ⟨rfl, rfl, rfl, rfl, rfl, rfl, rfl, rfl, rfl, rfl, rfl, rfl, rfl, rfl, rfl, rfl, rfl, rfl, rfl, rfl, rfl, rfl, rfl, rfl, rfl, rfl, trivial⟩ ?_
                          refine AWP.drawnM [] [.pure 0, .pure 1, .pure 2, .pure 3, .pure 4, .pure 5, .pure 6, .pure 7, .pure 8, .pure 9, .pure 10, .spine 11 [10] [0, 1, 2, 3, 4, 5, 6, 7, 8, 10], .pure 12] mixed rfl rfl rfl rfl rfl ?_
                          refine DM.pure (GX (tm' := [(3, _)]) rfl ⟨rfl, trivial⟩ rfl (DStep.yields (Yields.load_ptr_agg (j := 9) kd24 rfl rfl rfl rfl)) rfl) ?_
                          refine DM.pure (GX (tm' := [(114, _)]) rfl ⟨rfl, trivial⟩ rfl (DStep.callro (to_AFExpr true (.mk kd nm t ks) hk) rfl rfl) rfl) ?_
                          refine DM.pure (GX (tm' := [(1, _)]) rfl ⟨rfl, trivial⟩ rfl (DStep.yields (mv rfl)) rfl) ?_
                          refine DM.pure (GX (tm' := [(116, _)]) rfl ⟨rfl, trivial⟩ rfl (DStep.callro (toIntS_AF true p hpl) rfl rfl) rfl) ?_
                          refine DM.pure (GX (tm' := [(5, _)]) rfl ⟨rfl, trivial⟩ rfl (DStep.yields (Yields.load_ptr_agg (j := 8) kd24 rfl rfl rfl rfl)) rfl) ?_
                          refine DM.pure (GX (tm' := [(118, _)]) rfl ⟨rfl, trivial⟩ rfl (DStep.callro (to_AFExpr true (.mk xd xn xt xks) hk') rfl rfl) rfl) ?_
                          refine DM.pure (GX (tm' := [(115, _), (117, _), (119, _)]) rfl ⟨rfl, rfl, rfl, trivial⟩ rfl (DStep.callw (iF) rfl ⟨Tr.wk_avR _ _, wkI _ _, Tr.wk_avR _ _, trivial⟩ rfl) rfl) ?_
                          refine DM.pure (GX (tm' := [(120, _)]) rfl ⟨rfl, trivial⟩ rfl (DStep.yields (mv rfl)) rfl) ?_
                          refine DM.pure (GX (tm' := [(113, _)]) rfl ⟨rfl, trivial⟩ rfl (DStep.yields (Yields.extract rfl rfl)) rfl) ?_
                          refine DM.pure (GX (tm' := [(113, _)]) rfl ⟨rfl, trivial⟩ rfl (DStep.yields (Yields.extract rfl rfl)) rfl) ?_
                          refine DM.pure (GXs (tm' := []) rfl trivial rfl rfl (DStepU.alloc z30 rfl rfl) rfl) ?_
                          refine DM.sp rfl rfl ?_
                          refine DOpen.optr rfl fun b7 => ?_
                          refine DOpen.nil fun _ _ _ => ?_
                          refine AOps.subT (tm' := [(18, _), (121, _)]) ⟨rfl, rfl, trivial⟩ ?_
                          refine AOps.store (j := 0) kd30 rfl rfl rfl rfl rfl rfl ?_
                          refine AOps.nil ?_
                          refine SpK.mk0 ?_ ?_
                          · skip
                            refine Stab.skip rfl ?_
                            refine Stab.keep (GX (tm' := [(113, _)]) rfl ⟨rfl, trivial⟩ rfl (DStep.yields (Yields.extract rfl rfl)) rfl) ?_
                            refine Stab.skip rfl ?_
                            refine Stab.skip rfl ?_
                            refine Stab.skip rfl ?_
                            refine Stab.skip rfl ?_
                            refine Stab.skip rfl ?_
                            refine Stab.skip rfl ?_
                            refine Stab.skip rfl ?_
                            refine Stab.skip rfl ?_
                            refine Stab.skip rfl ?_
                            exact trivial
                          refine DM.pure (GX (tm' := [(122, _)]) rfl ⟨rfl, trivial⟩ rfl (DStep.yields (ass rfl)) rfl) ?_
                          refine DM.nil ?_
                          refine AWP.seq ?_
                          refine AWP.seq ?_
                          refine AWP.region ?_
                          refine Y (Yields.load_ptr_agg (j := 0) kd30 rfl rfl rfl rfl) rfl ?_
                          refine Y (Yields.load_ptr_agg (j := 8) kd30 rfl rfl rfl rfl) rfl ?_
                          refine AOps.callro (gq_XExpr (.mk gd gn gt gks) hE1) rfl rfl rfl ?_
                          refine Y (Yields.not rfl) rfl ?_
                          refine Y (mv rfl) rfl ?_
                          refine AOps.split 127 rfl (fun h8a => ?_) (fun h8a => ?_)
                          · skip
                            simp at h8a
                          · skip
                            refine AOps.on rfl rfl ?_
                            refine Y (mv rfl) rfl ?_
                            refine AOps.on rfl rfl ?_
                            refine Y (mv rfl) rfl ?_
                            refine AOps.on rfl rfl ?_
                            refine Y (bn rfl rfl (BinR.bneq Try.underlying4) rfl) rfl ?_
                            refine Y (Yields.pick_false rfl rfl) rfl ?_
                            refine AOps.nil ?_
                            refine AWP.condT rfl (fun h8b => ?_) (fun h8b => ?_)
                            · skip
                              simp at h8b
                            · skip
                              refine AWP.skip ?_
                              refine AWP.seq ?_
                              refine AWP.region ?_
                              refine Y (ass rfl) rfl ?_
                              refine AOps.nil ?_
                              refine AWP.seq ?_
                              refine AWP.region ?_
                              refine Y (Yields.load_ptr_agg (j := 5) kd30 rfl rfl rfl rfl) rfl ?_
                              refine Y (mv rfl) rfl ?_
                              refine AOps.call (held_XExpr gd gn gt gks 101 (by omega) hE1) rfl rfl ⟨bor_avM (j := 1) gd gn gt gks _ hml rfl, Bor.refl rfl, trivial⟩ rfl Free.val ?_
                              refine Y (ass rfl) rfl ?_
                              refine AOps.nil ?_
                              refine AWP.seq ?_
                              refine AWP.seq ?_
                              refine AWP.region ?_
                              refine Y (mv rfl) rfl ?_
                              refine Y (bn rfl rfl BinR.lss rfl) rfl ?_
                              refine AOps.nil ?_
                              refine AWP.condT rfl (fun h9a => ?_) (fun h9a => ?_)
                              · replace h9a := of_decide_eq_true h9a
                                omega
                              · replace h9a := of_decide_eq_false h9a
                                refine AWP.skip ?_
                                refine AWP.seq ?_
                                refine AWP.seq ?_
                                refine AWP.region ?_
                                refine Y (mv rfl) rfl ?_
                                refine Y (mv rfl) rfl ?_
                                refine Y (bn rfl rfl BinR.neq rfl) rfl ?_
                                refine AOps.nil ?_
                                refine AWP.condT rfl (fun h9b => ?_) (fun h9b => ?_)
                                · replace h9b := bne_iff_ne.1 h9b
                                  exact absurd rfl h9b
                                · replace h9b := bne_eq_false_iff_eq.1 h9b
                                  refine AWP.skip ?_
                                  refine AWP.seq ?_
                                  refine AWP.region ?_
                                  refine Y (ass rfl) rfl ?_
                                  refine AOps.nil ?_
                                  refine AWP.ret ⟨.inl rfl, ?_⟩
                                  exact RetIs.oneV rfl rfl (by (rfl) <;> rfl)
end Go.Proofs.Ytccdgppplkfjfaa
