/- ValueSame of both programs, and its law. -/
import Derived.Test.YtgfdkjpjijajnaaVok
import Derived.Test.YtgfdkjpjijajnaaSame
namespace Go.Proofs.Ytgfdkjpjijajnaa
open Go Go.Ax Go.Proofs
set_option linter.unusedVariables false
set_option linter.unusedSimpArgs false
set_option maxRecDepth 20000

theorem sValueSame_AF (k k' : Tr) (hk : k.bnd 1000000) (hk' : k'.bnd 1000000) : Fn 26 [k.av, k'.av] (bool (validV k 6 && (validV k' 6 && sameT k k'))) := by
  obtain ⟨kd, nm, t, ks⟩ := k
  obtain ⟨kd', nm', t', ks'⟩ := k'
  refine AF.intro Try.func26 nm26 rfl rfl rfl rfl fun w0 ok0 => ?_
  refine AWP.seq ?_
  refine AWP.region ?_
  refine AOps.box rfl rfl rfl rfl fun b1 => ?_
  refine AOps.box rfl rfl rfl rfl fun b2 => ?_
  refine Y (ass rfl) rfl ?_
  refine AOps.nil ?_
  refine AWP.seq ?_
  refine AWP.region ?_
  refine Y (Yields.load_ptr_agg (j := 1) kd33 rfl rfl rfl rfl) rfl ?_
  refine AOps.callro (sValueOk_AF (.mk kd nm t ks) hk) rfl rfl rfl ?_
  refine Y (mv rfl) rfl ?_
  refine AOps.split 7 rfl (fun h1 => ?_) (fun h1 => ?_)
  · skip
    refine AOps.on rfl rfl ?_
    refine Y (Yields.load_ptr_agg (j := 0) kd33 rfl rfl rfl rfl) rfl ?_
    refine AOps.on rfl rfl ?_
    refine AOps.callro (sValueOk_AF (.mk kd' nm' t' ks') hk') rfl rfl rfl ?_
    refine Y (Yields.pick_true rfl rfl) rfl ?_
    refine Y (mv rfl) rfl ?_
    refine AOps.split 11 rfl (fun h2 => ?_) (fun h2 => ?_)
    · skip
      refine AOps.on rfl rfl ?_
      refine Y (Yields.load_ptr_agg (j := 1) kd33 rfl rfl rfl rfl) rfl ?_
      refine AOps.on rfl rfl ?_
      refine Y (Yields.load_ptr_agg (j := 0) kd33 rfl rfl rfl rfl) rfl ?_
      refine AOps.on rfl rfl ?_
      refine AOps.callro (ssame_AFValue (.mk kd nm t ks) (.mk kd' nm' t' ks') hk) rfl rfl rfl ?_
      refine Y (Yields.pick_true rfl rfl) rfl ?_
      refine Y (ass rfl) rfl ?_
      refine AOps.nil ?_
      refine AWP.ret ⟨.inl rfl, ?_⟩
      exact RetIs.oneV rfl rfl (by (rw [h1, h2]; rfl) <;> rfl)
    · skip
      refine AOps.off' rfl rfl rfl rfl ?_
      refine AOps.off' rfl rfl rfl rfl ?_
      refine AOps.off' rfl rfl rfl rfl ?_
      refine Y (Yields.pick_false rfl rfl) rfl ?_
      refine Y (ass rfl) rfl ?_
      refine AOps.nil ?_
      refine AWP.ret ⟨.inl rfl, ?_⟩
      exact RetIs.oneV rfl rfl (by (rw [h1, h2]; rfl) <;> rfl)
  · skip
    refine AOps.off' rfl rfl rfl rfl ?_
    refine AOps.off' rfl rfl rfl rfl ?_
    refine Y (Yields.pick_false rfl rfl) rfl ?_
    refine Y (mv rfl) rfl ?_
    refine AOps.off' rfl rfl rfl rfl ?_
    refine AOps.off' rfl rfl rfl rfl ?_
    refine AOps.off' rfl rfl rfl rfl ?_
    refine Y (Yields.pick_false rfl rfl) rfl ?_
    refine Y (ass rfl) rfl ?_
    refine AOps.nil ?_
    refine AWP.ret ⟨.inl rfl, ?_⟩
    exact RetIs.oneV rfl rfl (by (rw [h1]; rfl) <;> rfl)
theorem iValueSame_AF (k k' : Tr) (hk : k.bnd 1000000) (hk' : k'.bnd 1000000) : Fn 27 [k.av, k'.av] (bool (validV k 6 && (validV k' 6 && sameT k k'))) := by
  obtain ⟨kd, nm, t, ks⟩ := k
  obtain ⟨kd', nm', t', ks'⟩ := k'
  refine AF.intro Try.func27 nm27 rfl rfl rfl rfl fun w0 ok0 => ?_
  refine AWP.seq ?_
  refine AWP.region ?_
  refine AOps.box rfl rfl rfl rfl fun b1 => ?_
  refine AOps.box rfl rfl rfl rfl fun b2 => ?_
  refine Y (ass rfl) rfl ?_
  refine AOps.nil ?_
  refine AWP.seq ?_
  refine AWP.region ?_
  refine Y (Yields.load_ptr_agg (j := 1) kd33 rfl rfl rfl rfl) rfl ?_
  refine AOps.callro (iValueOk_AF (.mk kd nm t ks) hk) rfl rfl rfl ?_
  refine Y (mv rfl) rfl ?_
  refine AOps.split 7 rfl (fun h1 => ?_) (fun h1 => ?_)
  · skip
    refine AOps.on rfl rfl ?_
    refine Y (Yields.load_ptr_agg (j := 0) kd33 rfl rfl rfl rfl) rfl ?_
    refine AOps.on rfl rfl ?_
    refine AOps.callro (iValueOk_AF (.mk kd' nm' t' ks') hk') rfl rfl rfl ?_
    refine Y (Yields.pick_true rfl rfl) rfl ?_
    refine Y (mv rfl) rfl ?_
    refine AOps.split 11 rfl (fun h2 => ?_) (fun h2 => ?_)
    · skip
      refine AOps.on rfl rfl ?_
      refine Y (Yields.load_ptr_agg (j := 1) kd33 rfl rfl rfl rfl) rfl ?_
      refine AOps.on rfl rfl ?_
      refine Y (Yields.load_ptr_agg (j := 0) kd33 rfl rfl rfl rfl) rfl ?_
      refine AOps.on rfl rfl ?_
      refine AOps.callro (isame_AFValue (.mk kd nm t ks) (.mk kd' nm' t' ks') hk) rfl rfl rfl ?_
      refine Y (Yields.pick_true rfl rfl) rfl ?_
      refine Y (ass rfl) rfl ?_
      refine AOps.nil ?_
      refine AWP.ret ⟨.inl rfl, ?_⟩
      exact RetIs.oneV rfl rfl (by (rw [h1, h2]; rfl) <;> rfl)
    · skip
      refine AOps.off' rfl rfl rfl rfl ?_
      refine AOps.off' rfl rfl rfl rfl ?_
      refine AOps.off' rfl rfl rfl rfl ?_
      refine Y (Yields.pick_false rfl rfl) rfl ?_
      refine Y (ass rfl) rfl ?_
      refine AOps.nil ?_
      refine AWP.ret ⟨.inl rfl, ?_⟩
      exact RetIs.oneV rfl rfl (by (rw [h1, h2]; rfl) <;> rfl)
  · skip
    refine AOps.off' rfl rfl rfl rfl ?_
    refine AOps.off' rfl rfl rfl rfl ?_
    refine Y (Yields.pick_false rfl rfl) rfl ?_
    refine Y (mv rfl) rfl ?_
    refine AOps.off' rfl rfl rfl rfl ?_
    refine AOps.off' rfl rfl rfl rfl ?_
    refine AOps.off' rfl rfl rfl rfl ?_
    refine Y (Yields.pick_false rfl rfl) rfl ?_
    refine Y (ass rfl) rfl ?_
    refine AOps.nil ?_
    refine AWP.ret ⟨.inl rfl, ?_⟩
    exact RetIs.oneV rfl rfl (by (rw [h1]; rfl) <;> rfl)
theorem exactValueSame (k : Tr) (hb : k.bnd 9223372036854775807) (k' : Tr) (hb' : k'.bnd 9223372036854775807) : Fn 8 [k.av, k'.av] (bool true) := by
  obtain ⟨kd, nm, t, ks⟩ := k
  obtain ⟨kd', nm', t', ks'⟩ := k'
  refine AF.intro Try.func8 nm8 rfl rfl rfl rfl fun w0 ok0 => ?_
  refine AWP.seq ?_
  refine AWP.region ?_
  refine AOps.box rfl rfl rfl rfl fun b1 => ?_
  refine AOps.box rfl rfl rfl rfl fun b2 => ?_
  refine Y (ass rfl) rfl ?_
  refine AOps.nil ?_
  refine AWP.seq ?_
  refine AWP.region ?_
  refine Y (ass rfl) rfl ?_
  refine AOps.nil ?_
  refine AWP.seq ?_
  refine AWP.region ?_
  refine Y (Yields.load_ptr_agg (j := 1) kd28 rfl rfl rfl rfl) rfl ?_
  refine Y (mv rfl) rfl ?_
  refine AOps.callro (szV_AFValue (.mk kd nm t ks) 1000000 hb (by omega) (by omega)) rfl rfl rfl ?_
  refine Y (ass rfl) rfl ?_
  refine AOps.nil ?_
  refine AWP.seq ?_
  refine AWP.seq ?_
  refine AWP.region ?_
  refine Y (mv rfl) rfl ?_
  refine Y (bn rfl rfl BinR.lss rfl) rfl ?_
  refine AOps.nil ?_
  refine AWP.cond rfl (fun h => ?_) (fun h => ?_)
  · replace h := of_decide_eq_true h
    refine AWP.seq ?_
    refine AWP.region ?_
    refine Y (ass rfl) rfl ?_
    refine AOps.nil ?_
    refine AWP.ret ⟨.inl rfl, ?_⟩
    exact RetIs.oneV rfl rfl (by (rfl) <;> rfl)
  · replace h := of_decide_eq_false h
    have hk := szV_bnd _ 1000000 (by omega) (by omega) (by omega : 0 ≤ szV (.mk kd nm t ks) 1000000)
    have hle := szV_le (.mk kd nm t ks) 1000000 (by omega)
    refine AWP.skip ?_
    refine AWP.seq ?_
    refine AWP.region ?_
    refine Y (Yields.load_ptr_agg (j := 0) kd28 rfl rfl rfl rfl) rfl ?_
    refine Y (mv rfl) rfl ?_
    refine AOps.callro (szV_AFValue (.mk kd' nm' t' ks') (szV (.mk kd nm t ks) 1000000) hb' (by omega) (by omega)) rfl rfl rfl ?_
    refine Y (ass rfl) rfl ?_
    refine AOps.nil ?_
    refine AWP.seq ?_
    refine AWP.seq ?_
    refine AWP.region ?_
    refine Y (mv rfl) rfl ?_
    refine Y (bn rfl rfl BinR.lss rfl) rfl ?_
    refine AOps.nil ?_
    refine AWP.cond rfl (fun h' => ?_) (fun h' => ?_)
    · replace h' := of_decide_eq_true h'
      refine AWP.seq ?_
      refine AWP.region ?_
      refine Y (ass rfl) rfl ?_
      refine AOps.nil ?_
      refine AWP.ret ⟨.inl rfl, ?_⟩
      exact RetIs.oneV rfl rfl (by (rfl) <;> rfl)
    · replace h' := of_decide_eq_false h'
      have hk' := szV_bnd (.mk kd' nm' t' ks') (szV (.mk kd nm t ks) 1000000) (by omega) (by omega) (by omega)
      refine AWP.skip ?_
      refine AWP.seq ?_
      refine AWP.prune (tm' := [(0, _), (1, _), (2, _), (3, _), (4, _), (5, _), (15, _), (20, _)]) ⟨rfl, rfl, rfl, rfl, rfl, rfl, rfl, rfl, trivial⟩ ?_
      refine AWP.drawn mixed rfl rfl ?_
      refine D (tm' := [(2, _)]) ⟨rfl, trivial⟩ (DStep.yields (Yields.load_ptr_agg (j := 1) kd28 rfl rfl rfl rfl)) rfl ?_
      refine D (tm' := [(21, _)]) ⟨rfl, trivial⟩ (DStep.callro (to_AFValue false (.mk kd nm t ks) hk) rfl rfl) rfl ?_
      refine D (tm' := [(3, _)]) ⟨rfl, trivial⟩ (DStep.yields (Yields.load_ptr_agg (j := 0) kd28 rfl rfl rfl rfl)) rfl ?_
      refine D (tm' := [(23, _)]) ⟨rfl, trivial⟩ (DStep.callro (to_AFValue false (.mk kd' nm' t' ks') hk') rfl rfl) rfl ?_
      refine D (tm' := [(22, _), (24, _)]) ⟨rfl, rfl, trivial⟩ (DStep.callw (sValueSame_AF (.mk kd nm t ks) (.mk kd' nm' t' ks') hk hk') rfl ⟨Tr.wk_avR _ _, Tr.wk_avR _ _, trivial⟩ rfl) rfl ?_
      refine D (tm' := [(25, _)]) ⟨rfl, trivial⟩ (DStep.yields (ass rfl)) rfl ?_
      refine DOps.nil ?_
      refine AWP.seq ?_
      refine AWP.region ?_
      refine Y (Yields.load_ptr_agg (j := 1) kd28 rfl rfl rfl rfl) rfl ?_
      refine AOps.callro (to_AFValue false (.mk kd nm t ks) hk) rfl rfl rfl ?_
      refine AOps.alloc rfl z33 rfl rfl fun b3 => ?_
      refine AOps.store (j := 0) kd33 rfl rfl rfl rfl rfl rfl ?_
      refine AOps.nil ?_
      refine AWP.seq ?_
      refine AWP.region ?_
      refine Y (Yields.load_ptr_agg (j := 1) kd28 rfl rfl rfl rfl) rfl ?_
      refine AOps.callro (to_AFValue false (.mk kd' nm' t' ks') hk') rfl rfl rfl ?_
      refine AOps.alloc rfl z33 rfl rfl fun b4 => ?_
      refine AOps.store (j := 0) kd33 rfl rfl rfl rfl rfl rfl ?_
      refine AOps.nil ?_
      refine AWP.seq ?_
      refine AWP.region ?_
      refine Y (Yields.load_ptr_agg (j := 1) kd33 rfl rfl rfl rfl) rfl ?_
      refine Y (Yields.load_ptr_agg (j := 0) kd33 rfl rfl rfl rfl) rfl ?_
      refine AOps.callw (iValueSame_AF (.mk kd nm t ks) (.mk kd' nm' t' ks') hk hk') rfl rfl ⟨Tr.wk_avR _ _, Tr.wk_avR _ _, trivial⟩ rfl ?_
      refine Y (ass rfl) rfl ?_
      refine AOps.nil ?_
      refine AWP.seq ?_
      refine AWP.seq ?_
      refine AWP.region ?_
      refine Y (mv rfl) rfl ?_
      refine Y (mv rfl) rfl ?_
      refine Y (bn rfl rfl (BinR.bneq Try.underlying4) rfl) rfl ?_
      refine AOps.nil ?_
      refine AWP.cond rfl (fun h2 => ?_) (fun h2 => ?_)
      · skip
        simp at h2
      · skip
        refine AWP.skip ?_
        refine AWP.seq ?_
        refine AWP.seq ?_
        refine AWP.prune (tm' := [(0, _), (1, _), (2, _), (3, _), (4, _), (5, _), (15, _), (20, _), (6, _), (7, _), (8, _), (9, _), (35, _)]) ⟨rfl, rfl, rfl, rfl, rfl, rfl, rfl, rfl, rfl, rfl, rfl, rfl, rfl, trivial⟩ ?_
        refine AWP.drawn mixed rfl rfl ?_
        refine D (tm' := [(7, _)]) ⟨rfl, trivial⟩ (DStep.yields (Yields.load_ptr_agg (j := 1) kd33 rfl rfl rfl rfl)) rfl ?_
        refine D (tm' := [(2, _)]) ⟨rfl, trivial⟩ (DStep.yields (Yields.load_ptr_agg (j := 3) kd28 rfl rfl rfl rfl)) rfl ?_
        refine D (tm' := [(37, _)]) ⟨rfl, trivial⟩ (DStep.callro (to_AFValue false (.mk kd nm t ks) hk) rfl rfl) rfl ?_
        refine D (tm' := [(36, _), (38, _)]) ⟨rfl, rfl, trivial⟩ (DStep.callro (intact_AFValue (.mk kd nm t ks) hk) rfl rfl) rfl ?_
        refine D (tm' := [(39, _)]) ⟨rfl, trivial⟩ (DStep.yields (Yields.not rfl)) rfl ?_
        refine DOps.nil ?_
        refine AWP.cond rfl (fun h3 => ?_) (fun h3 => ?_)
        · skip
          simp at h3
        · skip
          refine AWP.skip ?_
          refine AWP.seq ?_
          refine AWP.seq ?_
          refine AWP.prune (tm' := [(0, _), (1, _), (2, _), (3, _), (4, _), (5, _), (15, _), (20, _), (6, _), (7, _), (8, _), (9, _), (35, _), (40, _)]) ⟨rfl, rfl, rfl, rfl, rfl, rfl, rfl, rfl, rfl, rfl, rfl, rfl, rfl, rfl, trivial⟩ ?_
          refine AWP.drawn mixed rfl rfl ?_
          refine D (tm' := [(8, _)]) ⟨rfl, trivial⟩ (DStep.yields (Yields.load_ptr_agg (j := 0) kd33 rfl rfl rfl rfl)) rfl ?_
          refine D (tm' := [(3, _)]) ⟨rfl, trivial⟩ (DStep.yields (Yields.load_ptr_agg (j := 2) kd28 rfl rfl rfl rfl)) rfl ?_
          refine D (tm' := [(42, _)]) ⟨rfl, trivial⟩ (DStep.callro (to_AFValue false (.mk kd' nm' t' ks') hk') rfl rfl) rfl ?_
          refine D (tm' := [(41, _), (43, _)]) ⟨rfl, rfl, trivial⟩ (DStep.callro (intact_AFValue (.mk kd' nm' t' ks') hk') rfl rfl) rfl ?_
          refine D (tm' := [(44, _)]) ⟨rfl, trivial⟩ (DStep.yields (Yields.not rfl)) rfl ?_
          refine DOps.nil ?_
          refine AWP.cond rfl (fun h3 => ?_) (fun h3 => ?_)
          · skip
            simp at h3
          · skip
            refine AWP.skip ?_
            refine AWP.seq ?_
            refine AWP.prune (tm' := [(0, _), (1, _), (2, _), (3, _), (4, _), (5, _), (15, _), (20, _), (6, _), (7, _), (8, _), (9, _), (35, _), (40, _), (45, _)]) ⟨rfl, rfl, rfl, rfl, rfl, rfl, rfl, rfl, rfl, rfl, rfl, rfl, rfl, rfl, rfl, trivial⟩ ?_
            refine AWP.drawn mixed rfl rfl ?_
            refine D (tm' := [(2, _)]) ⟨rfl, trivial⟩ (DStep.yields (Yields.load_ptr_agg (j := 3) kd28 rfl rfl rfl rfl)) rfl ?_
            refine D (tm' := [(46, _)]) ⟨rfl, trivial⟩ (DStep.callro (to_AFValue true (.mk kd nm t ks) hk) rfl rfl) rfl ?_
            refine D (tm' := [(3, _)]) ⟨rfl, trivial⟩ (DStep.yields (Yields.load_ptr_agg (j := 2) kd28 rfl rfl rfl rfl)) rfl ?_
            refine D (tm' := [(48, _)]) ⟨rfl, trivial⟩ (DStep.callro (to_AFValue true (.mk kd' nm' t' ks') hk') rfl rfl) rfl ?_
            refine D (tm' := [(47, _), (49, _)]) ⟨rfl, rfl, trivial⟩ (DStep.callw (iValueSame_AF (.mk kd nm t ks) (.mk kd' nm' t' ks') hk hk') rfl ⟨Tr.wk_avR _ _, Tr.wk_avR _ _, trivial⟩ rfl) rfl ?_
            refine D (tm' := [(50, _)]) ⟨rfl, trivial⟩ (DStep.yields (ass rfl)) rfl ?_
            refine DOps.nil ?_
            refine AWP.seq ?_
            refine AWP.seq ?_
            refine AWP.region ?_
            refine Y (mv rfl) rfl ?_
            refine Y (mv rfl) rfl ?_
            refine Y (bn rfl rfl (BinR.bneq Try.underlying4) rfl) rfl ?_
            refine AOps.nil ?_
            refine AWP.cond rfl (fun h4 => ?_) (fun h4 => ?_)
            · skip
              simp at h4
            · skip
              refine AWP.skip ?_
              refine AWP.seq ?_
              refine AWP.region ?_
              refine Y (ass rfl) rfl ?_
              refine AOps.nil ?_
              refine AWP.ret ⟨.inl rfl, ?_⟩
              exact RetIs.oneV rfl rfl (by (rfl) <;> rfl)
end Go.Proofs.Ytgfdkjpjijajnaa
