/- The law of SharedPaths. -/
import Derived.Test.YtccdgppplkfjfaaShr
import Derived.Test.YtccdgppplkfjfaaRowm
import Derived.Test.YtccdgppplkfjfaaInts
import Derived.Test.YtccdgppplkfjfaaOwn
namespace Go.Proofs.Ytccdgppplkfjfaa
open Go Go.Ax Go.Proofs
set_option linter.unusedVariables false
set_option linter.unusedSimpArgs false
set_option maxRecDepth 20000
theorem wkI (l : List Int) (b : Bool) : Wk (.ro 1 (ints l) (ints (spareI b l.length)) false) (.ro 1 (ints l) [] false) := Wk.ro (WkL.refl _)
theorem exactSharedPathsN (k : Tr) (hb : k.bnd 9223372036854775807) (hkt : k.text.size ≤ 140737488355328) (p : List Int) (hp : p.length ≤ 140737488355328) (hneg : (1000000 : Int) - p.length < 0) : Fn 8 [k.av, .ro 1 (ints p) [] false] (bool true) := by
  obtain ⟨kd, nm, t, ks⟩ := k
  have hlp := ints_length p
  refine AF.intro Try.func8 nm8 rfl rfl rfl rfl fun w0 ok0 => ?_
  refine AWP.seq ?_
  refine AWP.region ?_
  refine AOps.box rfl rfl rfl rfl fun b1 => ?_
  refine Y (ass rfl) rfl ?_
  refine AOps.nil ?_
  refine AWP.seq ?_
  refine AWP.region ?_
  refine Y (mv rfl) rfl ?_
  refine Y (Yields.len_ro sl41 rfl) rfl ?_
  refine Y (bn rfl rfl (BinR.subI (by omega) (by omega)) rfl) rfl ?_
  refine Y (ass rfl) rfl ?_
  refine AOps.nil ?_
  refine AWP.seq ?_
  refine AWP.region ?_
  refine Y (Yields.load_ptr_agg (j := 0) kd24 rfl rfl rfl rfl) rfl ?_
  refine Y (mv rfl) rfl ?_
  refine AOps.callro (szV_lessExpr (.mk kd nm t ks) (1000000 - (ints p).length) hb (by omega) (by omega) (by omega)) rfl rfl rfl ?_
  refine Y (ass rfl) rfl ?_
  refine AOps.nil ?_
  refine AWP.seq ?_
  refine AWP.seq ?_
  refine AWP.region ?_
  refine Y (mv rfl) rfl ?_
  refine Y (bn rfl rfl BinR.lss rfl) rfl ?_
  refine AOps.nil ?_
  refine AWP.condT rfl (fun h => ?_) (fun h => ?_)
  ·
   replace h := of_decide_eq_true h
   refine AWP.seq ?_
   refine AWP.region ?_
   refine Y (ass rfl) rfl ?_
   refine AOps.nil ?_
   refine AWP.ret ⟨.inl rfl, ?_⟩
   exact RetIs.oneV rfl rfl (by (rfl) <;> rfl)
  ·
   replace h := of_decide_eq_false h
   omega
theorem exactSharedPaths (k : Tr) (hb : k.bnd 9223372036854775807) (hkt : k.text.size ≤ 140737488355328) (p : List Int) (hp : p.length ≤ 140737488355328) : Fn 8 [k.av, .ro 1 (ints p) [] false] (bool true) := by
  by_cases hneg : (1000000 : Int) - p.length < 0
  · exact exactSharedPathsN k hb hkt p hp hneg
  obtain ⟨kd, nm, t, ks⟩ := k
  have hlp := ints_length p
  refine AF.intro Try.func8 nm8 rfl rfl rfl rfl fun w0 ok0 => ?_
  refine AWP.seq ?_
  refine AWP.region ?_
  refine AOps.box rfl rfl rfl rfl fun b1 => ?_
  refine Y (ass rfl) rfl ?_
  refine AOps.nil ?_
  refine AWP.seq ?_
  refine AWP.region ?_
  refine Y (mv rfl) rfl ?_
  refine Y (Yields.len_ro sl41 rfl) rfl ?_
  refine Y (bn rfl rfl (BinR.subI (by omega) (by omega)) rfl) rfl ?_
  refine Y (ass rfl) rfl ?_
  refine AOps.nil ?_
  refine AWP.seq ?_
  refine AWP.region ?_
  refine Y (Yields.load_ptr_agg (j := 0) kd24 rfl rfl rfl rfl) rfl ?_
  refine Y (mv rfl) rfl ?_
  refine AOps.callro (szV_AFExpr (.mk kd nm t ks) (1000000 - (ints p).length) hb (by omega) (by omega)) rfl rfl rfl ?_
  refine Y (ass rfl) rfl ?_
  refine AOps.nil ?_
  refine AWP.seq ?_
  refine AWP.seq ?_
  refine AWP.region ?_
  refine Y (mv rfl) rfl ?_
  refine Y (bn rfl rfl BinR.lss rfl) rfl ?_
  refine AOps.nil ?_
  refine AWP.condT rfl (fun h => ?_) (fun h => ?_)
  ·
   replace h := of_decide_eq_true h
   refine AWP.seq ?_
   refine AWP.region ?_
   refine Y (ass rfl) rfl ?_
   refine AOps.nil ?_
   refine AWP.ret ⟨.inl rfl, ?_⟩
   exact RetIs.oneV rfl rfl (by (rfl) <;> rfl)
  ·
   replace h := of_decide_eq_false h
   have hk := szV_bnd _ (1000000 - (ints p).length) (by omega) (by omega) (by omega : 0 ≤ szV (.mk kd nm t ks) (1000000 - (ints p).length))
   have hz := sizeT_sz (.mk kd nm t ks) (1000000 - (ints p).length) (by omega) (by omega)
   have hz1 := hz
   rw [sizeT] at hz1
   have hz2 : sizeT (.mk kd nm t ks) ≤ 2000000 := by omega
   have hpl : p.length ≤ 1000000 := by omega
   have hz3 : sizeT (.mk kd nm t ks) ≤ 1000001 := by omega
   have hpl0 := pathsT_length (.mk kd nm t ks)
   have hll0 := sharedE_length (.mk kd nm t ks) p
   have hll : (sharedE (.mk kd nm t ks) p).length ≤ 2000000 := by omega
   have hsh : ∀ q ∈ sharedE (.mk kd nm t ks) p, q.length ≤ 2000000 := fun q hq => by have := pathsT_short (.mk kd nm t ks) q (sharedE_sub _ _ q hq); omega
   have hsum := sumR_le _ hsh
   have hsum2 : sumR (sharedE (.mk kd nm t ks) p) ≤ 4000000000000 := Nat.le_trans hsum (Nat.mul_le_mul hll (Nat.le_refl 2000000))
   have sF := sSharedPaths_AF (.mk kd nm t ks) hk hz3 p hpl
   have iH := iSharedPaths_AH (.mk kd nm t ks) hk hz3 p hpl
   have iF := iSharedPaths_AF (.mk kd nm t ks) hk hz3 p hpl
   clear hsum
   generalize sharedE (.mk kd nm t ks) p = L at hll0 hll hsh hsum2 sF iH iF
   refine AWP.skip ?_
   refine AWP.seq ?_
   refine AWP.region ?_
   refine Y (Yields.load_ptr_agg (j := 0) kd24 rfl rfl rfl rfl) rfl ?_
   refine AOps.callro (to_AFExpr false (.mk kd nm t ks) hk) rfl rfl rfl ?_
   refine Y (mv rfl) rfl ?_
   refine AOps.callro (toIntS_AF false p hpl) rfl rfl rfl ?_
   refine AOps.callw (sF) rfl rfl ⟨Tr.wk_avR _ _, wkI _ _, trivial⟩ rfl ?_
   refine Y (ass rfl) rfl ?_
   refine AOps.nil ?_
   refine AWP.seq ?_
   refine AWP.region ?_
   refine Y (Yields.load_ptr_agg (j := 0) kd24 rfl rfl rfl rfl) rfl ?_
   refine AOps.callH (.inr rfl) (to_XExpr false (.mk kd nm t ks) hk) rfl rfl rfl (WkL.refl _) ?_
   rintro _ _ ⟨Bx, rfl, rfl⟩
   refine AOps.alloc rfl z30 rfl rfl fun b2 => ?_
   refine AOps.store (j := 0) kd30 rfl rfl rfl rfl rfl rfl ?_
   refine AOps.nil ?_
   refine AWP.seq ?_
   refine AWP.region ?_
   refine Y (mv rfl) rfl ?_
   refine AOps.callH (.inr rfl) (toIntS_AH false p hpl) rfl rfl rfl (WkL.refl _) ?_
   rintro _ _ ⟨Bp, rfl, rfl⟩
   refine Y (ass rfl) rfl ?_
   refine AOps.nil ?_
   refine AWP.seq ?_
   refine AWP.region ?_
   refine Y (Yields.load_ptr_agg (j := 1) kd30 rfl rfl rfl rfl) rfl ?_
   refine Y (mv rfl) rfl ?_
   refine AOps.callHb (.inr rfl) (iH) rfl rfl rfl ⟨bor_av _ kd nm t ks (Tr.view_avs' false ks) (j := 2) rfl, bor_ints (j := 0) rfl rfl, trivial⟩ (fun r hp' h => ownR.free h) ?_
   rintro _ _ ⟨Bg, rfl, rfl⟩
   refine Y (ass rfl) rfl ?_
   refine AOps.nil ?_
   refine AWP.seq ?_
   refine AWP.seq ?_
   refine AWP.region ?_
   refine Y (mv rfl) rfl ?_
   refine Y (mv rfl) rfl ?_
   refine AOps.call (eqIntSS_AF L (by omega) (fun p hp => by have := hsh p hp; omega)) rfl rfl ⟨bor_rows (j := 0) rfl rfl, Bor.refl rfl, trivial⟩ rfl Free.val ?_
   refine Y (Yields.not rfl) rfl ?_
   refine AOps.nil ?_
   refine AWP.condT rfl (fun h2a => ?_) (fun h2a => ?_)
   ·
    skip
    simp at h2a
   ·
    skip
    refine AWP.skip ?_
    refine AWP.seq ?_
    refine AWP.seq ?_
    refine AWP.prune (tm' := [(0, _), (1, _), (2, _), (4, _), (5, _), (21, _), (6, _), (7, _), (8, _), (9, _), (37, _)]) ⟨rfl, rfl, rfl, rfl, rfl, rfl, rfl, rfl, rfl, rfl, rfl, trivial⟩ ?_
    refine AWP.drawn mixed rfl rfl ?_
    refine D (tm' := [(7, _)]) ⟨rfl, trivial⟩ (DStep.yields (Yields.load_ptr_agg (j := 2) kd30 rfl rfl rfl rfl)) rfl ?_
    refine D (tm' := [(2, _)]) ⟨rfl, trivial⟩ (DStep.yields (Yields.load_ptr_agg (j := 4) kd24 rfl rfl rfl rfl)) rfl ?_
    refine D (tm' := [(39, _)]) ⟨rfl, trivial⟩ (DStep.callro (to_AFExpr false (.mk kd nm t ks) hk) rfl rfl) rfl ?_
    refine D (tm' := [(38, _), (40, _)]) ⟨rfl, rfl, trivial⟩ (DStep.call (intact_AFExpr (.mk kd nm t ks) hk) rfl ⟨bor_avR false kd nm t ks (j := 3) rfl, Bor.refl rfl, trivial⟩ rfl Free.val) rfl ?_
    refine D (tm' := [(41, _)]) ⟨rfl, trivial⟩ (DStep.yields (Yields.not rfl)) rfl ?_
    refine DOps.nil ?_
    refine AWP.condT rfl (fun h3 => ?_) (fun h3 => ?_)
    ·
     skip
     simp at h3
    ·
     skip
     refine AWP.skip ?_
     refine AWP.seq ?_
     refine AWP.seq ?_
     refine AWP.region ?_
     refine Y (mv rfl) rfl ?_
     refine Y (mv rfl) rfl ?_
     refine AOps.callro (toIntS_AF false p hpl) rfl rfl rfl ?_
     refine AOps.call (intactIntS_AF p hpl) rfl rfl ⟨bor_intsR (j := 1) rfl, Bor.refl rfl, trivial⟩ rfl Free.val ?_
     refine Y (Yields.not rfl) rfl ?_
     refine AOps.nil ?_
     refine AWP.condT rfl (fun h3b => ?_) (fun h3b => ?_)
     ·
      skip
      simp at h3b
     ·
      skip
      refine AWP.skip ?_
      refine AWP.seq ?_
      refine AWP.region ?_
      refine Y (ass rfl) rfl ?_
      refine AOps.nil ?_
      refine AWP.seq ?_
      refine AWP.region ?_
      refine Y (Yields.load_ptr_agg (j := 2) kd30 rfl rfl rfl rfl) rfl ?_
      refine Y (mv rfl) rfl ?_
      refine AOps.leads (Leads.pull 3 rfl) ?_
      refine AOps.callH (.inr rfl) (mark_XExpr (Tr.spare false) kd nm t ks 101 Bx (by omega) hk) rfl rfl rfl (WkL.refl _) ?_
      rintro _ _ ⟨rfl, rfl⟩
      have hmx := markL_le ks 101
      refine Y (ass rfl) rfl ?_
      refine AOps.nil ?_
      refine AWP.seq ?_
      refine AWP.region ?_
      refine Y (mv rfl) rfl ?_
      refine Y (mv rfl) rfl ?_
      refine AOps.leads (Leads.pull 2 rfl) ?_
      refine AOps.callH (.inr rfl) (markIntS_AH p _ _ Bp (markL ks 101).2 (by omega)) rfl rfl rfl (WkL.refl _) ?_
      rintro _ _ ⟨rfl, rfl⟩
      refine Y (ass rfl) rfl ?_
      refine AOps.nil ?_
      refine AWP.seq ?_
      refine AWP.seq ?_
      refine AWP.region ?_
      refine Y (mv rfl) rfl ?_
      refine Y (bn rfl rfl BinR.lss rfl) rfl ?_
      refine Y (mv rfl) rfl ?_
      refine AOps.split 56 rfl (fun h4 => ?_) (fun h4 => ?_)
      ·
       replace h4 := of_decide_eq_true h4
       omega
      ·
       replace h4 := of_decide_eq_false h4
       refine AOps.on rfl rfl ?_
       refine Y (mv rfl) rfl ?_
       refine AOps.on rfl rfl ?_
       refine Y (mv rfl) rfl ?_
       refine AOps.on rfl rfl ?_
       refine AOps.call (eqIntSS_AF L (by omega) (fun p hp => by have := hsh p hp; omega)) rfl rfl ⟨bor_rows (j := 2) rfl rfl, Bor.refl rfl, trivial⟩ rfl Free.val ?_
       refine AOps.on rfl rfl ?_
       refine Y (Yields.not rfl) rfl ?_
       refine Y (Yields.pick_false rfl rfl) rfl ?_
       refine AOps.nil ?_
       refine AWP.condT rfl (fun h5 => ?_) (fun h5 => ?_)
       ·
        skip
        simp at h5
       ·
        skip
        refine AWP.skip ?_
        refine AWP.seq ?_
        refine AWP.region ?_
        refine Y (ass rfl) rfl ?_
        refine AOps.nil ?_
        refine AWP.seq ?_
        refine AWP.region ?_
        refine Y (mv rfl) rfl ?_
        refine Y (mv rfl) rfl ?_
        refine AOps.leads (Leads.pull 2 rfl) ?_
        refine AOps.callH (.inr rfl) (markIntSS_AH L Bg 101 (by omega) (by omega)) rfl rfl rfl (WkL.refl _) ?_
        rintro _ _ ⟨rfl, rfl⟩
        refine Y (ass rfl) rfl ?_
        refine AOps.nil ?_
        refine AWP.seq ?_
        refine AWP.region ?_
        refine Y (ass rfl) rfl ?_
        refine AOps.nil ?_
        refine AWP.seq ?_
        refine AWP.region ?_
        refine Y (mv rfl) rfl ?_
        refine Y (mv rfl) rfl ?_
        refine AOps.call (heldIntSS_AF L 101 (by omega) (by omega)) rfl rfl ⟨bor_rows (j := 0) rfl (markR_length _ _).symm, Bor.refl rfl, trivial⟩ rfl Free.val ?_
        refine Y (ass rfl) rfl ?_
        refine AOps.nil ?_
        refine AWP.seq ?_
        refine AWP.seq ?_
        refine AWP.region ?_
        refine Y (mv rfl) rfl ?_
        refine Y (bn rfl rfl BinR.lss rfl) rfl ?_
        refine AOps.nil ?_
        refine AWP.condT rfl (fun h6 => ?_) (fun h6 => ?_)
        ·
         replace h6 := of_decide_eq_true h6
         omega
        ·
         replace h6 := of_decide_eq_false h6
         refine AWP.skip ?_
         refine AWP.seq ?_
         refine AWP.seq ?_
         refine AWP.region ?_
         refine Y (mv rfl) rfl ?_
         refine Y (mv rfl) rfl ?_
         refine Y (bn rfl rfl BinR.neq rfl) rfl ?_
         refine AOps.nil ?_
         refine AWP.condT rfl (fun h7 => ?_) (fun h7 => ?_)
         ·
          replace h7 := bne_iff_ne.1 h7
          exact absurd rfl h7
         ·
          replace h7 := bne_eq_false_iff_eq.1 h7
          refine AWP.skip ?_
          refine AWP.seq ?_
          refine AWP.region ?_
          refine Y (Yields.load_ptr_agg (j := 4) kd24 rfl rfl rfl rfl) rfl ?_
          refine AOps.callro (to_AFExpr true (.mk kd nm t ks) hk) rfl rfl rfl ?_
          refine Y (mv rfl) rfl ?_
          refine AOps.callro (toIntS_AF true p hpl) rfl rfl rfl ?_
          refine AOps.callw (iF) rfl rfl ⟨Tr.wk_avR _ _, wkI _ _, trivial⟩ rfl ?_
          refine Y (ass rfl) rfl ?_
          refine AOps.nil ?_
          refine AWP.seq ?_
          refine AWP.seq ?_
          refine AWP.region ?_
          refine Y (mv rfl) rfl ?_
          refine Y (mv rfl) rfl ?_
          refine AOps.callro (eqIntSS_AF L (by omega) (fun p hp => by have := hsh p hp; omega)) rfl rfl rfl ?_
          refine Y (Yields.not rfl) rfl ?_
          refine AOps.nil ?_
          refine AWP.condT rfl (fun h8 => ?_) (fun h8 => ?_)
          ·
           skip
           simp at h8
          ·
           skip
           refine AWP.skip ?_
           refine AWP.seq ?_
           refine AWP.region ?_
           refine Y (ass rfl) rfl ?_
           refine AOps.nil ?_
           refine AWP.seq ?_
           refine AWP.region ?_
           refine Y (mv rfl) rfl ?_
           refine Y (mv rfl) rfl ?_
           refine AOps.call (heldIntSS_AF L 101 (by omega) (by omega)) rfl rfl ⟨bor_rows (j := 0) rfl (markR_length _ _).symm, Bor.refl rfl, trivial⟩ rfl Free.val ?_
           refine Y (ass rfl) rfl ?_
           refine AOps.nil ?_
           refine AWP.seq ?_
           refine AWP.seq ?_
           refine AWP.region ?_
           refine Y (mv rfl) rfl ?_
           refine Y (bn rfl rfl BinR.lss rfl) rfl ?_
           refine AOps.nil ?_
           refine AWP.condT rfl (fun h9 => ?_) (fun h9 => ?_)
           ·
            replace h9 := of_decide_eq_true h9
            omega
           ·
            replace h9 := of_decide_eq_false h9
            refine AWP.skip ?_
            refine AWP.seq ?_
            refine AWP.seq ?_
            refine AWP.region ?_
            refine Y (mv rfl) rfl ?_
            refine Y (mv rfl) rfl ?_
            refine Y (bn rfl rfl BinR.neq rfl) rfl ?_
            refine AOps.nil ?_
            refine AWP.condT rfl (fun h10 => ?_) (fun h10 => ?_)
            ·
             replace h10 := bne_iff_ne.1 h10
             exact absurd rfl h10
            ·
             replace h10 := bne_eq_false_iff_eq.1 h10
             refine AWP.skip ?_
             refine AWP.seq ?_
             refine AWP.region ?_
             refine Y (ass rfl) rfl ?_
             refine AOps.nil ?_
             refine AWP.ret ⟨.inl rfl, ?_⟩
             exact RetIs.oneV rfl rfl (by (rfl) <;> rfl)
end Go.Proofs.Ytccdgppplkfjfaa
