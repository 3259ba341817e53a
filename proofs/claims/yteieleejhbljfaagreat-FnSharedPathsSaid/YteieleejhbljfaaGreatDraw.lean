/- The draws of expressions, paths. -/
import Derived.Test.YteieleejhbljfaaGreatMk2
import Derived.Test.YteieleejhbljfaaGreatPlw
namespace Go.Proofs.YteieleejhbljfaaGreat
open Go Go.Ax Go.Proofs
set_option linter.unusedVariables false
set_option linter.unusedSimpArgs false
set_option maxRecDepth 20000
theorem capM5 : capM 5 = 191816 := by decide
theorem trElim (k : Tr) {G : Prop} (h : ∀ a b c ks, k = .mk a b c ks → G) : G := by
  obtain ⟨a, b, c, ks⟩ := k
  exact h a b c ks rfl
theorem sput_AF (x : Tr) (hx : x.bnd 1000000) (p : List Int) (k : Tr) (hk : k.bnd 1000000) (h : (atT k p).isSome = true) (hp : p.length ≤ 1000000) : Fn 65 [k.av, .ro 1 (ints p) [] false, x.av] (putT k p x).av :=
  AH.toF (by simp [plainL, plainV, Tr.plain_av]) (sput_AH x hx p k hk h hp) (fun r hp' h => ownT.fz h)
theorem sbelow0_AH (k : Tr) (hk : k.bnd 1000000) (hz : sizeT k ≤ 2000000) : FnH 47 [] [k.av, .ro 1 (ints []) [] false] (ownR (pathsT k)) := by
  have := sbelow_AH k [] hk (by simpa using hz)
  rw [behind_nil] at this
  exact this
theorem fz_ints {B : Option Nat} {l : List Int} {len : Nat} (hl : len = l.length) : Fz [(B, ⟨1, ints l⟩)] (.loc B 0 len len 1) (.ro 1 (ints l) [] false) := by
  subst hl
  exact (Bor.loc (j := 0) rfl (by simp [ints_length]) (by rw [List.take_of_length_le (by simp [ints_length])]; exact viewL_refl (plain_ints l))).fz
def listB : Binds := [(⟨#[97]⟩, ⟨#[105, 110, 116]⟩), (⟨#[98]⟩, ⟨#[91, 105, 110, 116, 93]⟩), (⟨#[120]⟩, ⟨#[98, 111, 111, 108]⟩), (⟨#[121]⟩, ⟨#[116, 101, 120, 116]⟩)]
theorem anyExpr_AH (b : Nat) (code : List UInt8) (p : Nat) (hc : code.length ≤ 1048576) (hp : p ≤ 700000) : FnH 28 [src b code p] [.ptr (some b) 0 0 2] (srcV 200000 b code p 200000) := by
  have hc5 := capM5
  refine AH.intro Tryz.func28 nm28 rfl rfl rfl fun w0 ok0 own0 => ?_
  refine AWP.seq ?_
  refine AWP.region ?_
  refine AOps.alloc rfl z25 rfl rfl fun b2 => ?_
  refine AOps.nil ?_
  refine AWP.seq ?_
  refine AWP.region ?_
  refine Y (mv rfl) rfl ?_
  refine AOps.callro (small_AF) rfl rfl rfl ?_
  refine Y (mv rfl) rfl ?_
  refine AOps.leads (Leads.pull 1 rfl) ?_
  refine AOps.callH (.inl trivial) (pick_AH b code p 20 hc (by omega) (by omega) (by omega)) rfl rfl rfl (WkL.refl _) ?_
  rintro _ _ ⟨m1, q1, k1, k2, k3, k4, rfl, rfl⟩
  refine Y (bn rfl rfl (BinR.addI (by omega) (by omega)) rfl) rfl ?_
  refine Y (mv rfl) rfl ?_
  refine AOps.callH (.inl trivial) (pick_AH b code q1 2 hc (by omega) (by omega) (by omega)) rfl rfl rfl (WkL.refl _) ?_
  rintro _ _ ⟨m2, q2, i1, i2, i3, i4, rfl, rfl⟩
  refine Y (bn rfl rfl BinR.eql rfl) rfl ?_
  refine Y (Yields.build pl69 z69 rfl rfl) rfl ?_
  refine AOps.box rfl rfl rfl rfl fun bm => ?_
  refine Y (ass rfl) rfl ?_
  refine AOps.nil ?_
  refine AWP.seq ?_
  refine AWP.region ?_
  refine Y (Yields.build pl89 z89 rfl rfl) rfl ?_
  refine Y (Yields.build pl89 z89 rfl rfl) rfl ?_
  refine Y (Yields.build pl89 z89 rfl rfl) rfl ?_
  refine Y (Yields.build pl89 z89 rfl rfl) rfl ?_
  refine AOps.step (DStep.buildRo sl82 z89 rfl rfl rfl rfl) rfl ?_
  refine Y (ass rfl) rfl ?_
  refine AOps.nil ?_
  refine AWP.seq ?_
  refine AWP.region ?_
  refine Y (mv rfl) rfl ?_
  refine Y (mv rfl) rfl ?_
  refine AOps.leads (Leads.pull 0 rfl) ?_
  refine AOps.leads (Leads.pull 1 rfl) ?_
  refine AOps.callH (.inl trivial) (types_AH b bm code q2 (6 + m1) _ hc (by omega)) rfl rfl rfl (WkL.refl _) ?_
  rintro _ _ ⟨su, q3, j4, j5, j6, rfl, rfl⟩
  refine Y (mv rfl) rfl ?_
  refine AOps.leads (Leads.pull 1 rfl) ?_
  refine AOps.leads (Leads.pull 1 rfl) ?_
  refine AOps.callH (.inl trivial) (make_AH b bm code _ hc 5 su listB q3 (6 + m1) 5 j4 (by decide) (by decide) (by omega) (by omega) (by omega) (by omega) (by omega)) rfl rfl rfl (WkL.refl _) ?_
  rintro _ _ ⟨⟨vk, vn, vt, vks⟩, q4, lf4, u1, u2, u3, u4, u5, u6, rfl, rfl⟩
  refine AOps.alloc rfl z25 rfl rfl fun b5 => ?_
  refine AOps.store (j := 0) kd25 rfl rfl rfl rfl rfl rfl ?_
  refine AOps.nil ?_
  refine AWP.seq ?_
  refine AWP.seq ?_
  refine AWP.region ?_
  refine Y (mv rfl) rfl ?_
  refine AOps.leads (Leads.pull 1 rfl) ?_
  refine AOps.callH (.inl trivial) (rare_AH b code q4 hc (by omega)) rfl rfl rfl (WkL.refl _) ?_
  rintro _ _ ⟨m5, q5, n1, n2, rfl, rfl⟩
  refine AOps.nil ?_
  refine AWP.condT rfl (fun c1 => ?_) (fun c1 => ?_)
  ·
   skip
   refine AWP.seq ?_
   refine AWP.region ?_
   have hL := pathsT_length (.mk vk vn vt vks)
   have hpos := sizeT_pos (.mk vk vn vt vks)
   have hRl := rowsR_length (pathsT (.mk vk vn vt vks))
   refine Y (Yields.load_ptr_agg (j := 1) kd25 rfl rfl rfl rfl) rfl ?_
   refine AOps.callH (.inl trivial) (sbelow0_AH (.mk vk vn vt vks) u1 (by omega)) rfl rfl rfl ⟨Wk.refl _, Wk.nil, trivial⟩ ?_
   rintro _ _ ⟨Ba, rfl, rfl⟩
   refine Y (ass rfl) rfl ?_
   refine AOps.nil ?_
   refine AWP.seq ?_
   refine AWP.region ?_
   refine AOps.leads (Leads.freezeT 1 6 (.inl trivial) rfl (ownR.fz ⟨_, rfl, rfl⟩)) ?_
   refine Y (mv rfl) rfl ?_
   refine Y (mv rfl) rfl ?_
   refine Y (mv rfl) rfl ?_
   refine Y (Yields.len_ro sl35 rfl) rfl ?_
   refine AOps.callH (.inl trivial) (pick_AH b code q5 (rowsR (pathsT (.mk vk vn vt vks))).length hc (by omega) (by omega) (by omega)) rfl rfl rfl (WkL.refl _) ?_
   rintro _ _ ⟨m6, q6, k5, k6, k7, k8, rfl, rfl⟩
   obtain ⟨pp, hpp, _⟩ := drop_at (l := pathsT (.mk vk vn vt vks)) (i := m6.toNat) (by omega)
   have hpi := List.mem_of_getElem? hpp
   have hpa := pathsT_at _ pp hpi
   have hps := pathsT_short _ pp hpi
   refine Y (Yields.idx_roN sl35 rfl rfl rfl (j := m6.toNat) (by omega) (by omega)) rfl ?_
   refine Y (Yields.load_rop_one kd32 rfl (rowsR_at hpp) rfl) rfl ?_
   refine Y (ass rfl) rfl ?_
   refine AOps.nil ?_
   refine AWP.prune (tm' := [(0, _), (2, _), (3, _), (4, _), (5, _), (29, _), (6, _), (7, _)]) ⟨rfl, rfl, rfl, rfl, rfl, rfl, rfl, rfl, trivial⟩ ?_
   refine AWP.drawnM [] [.pure 0, .pure 1, .pure 2, .pure 4, .pure 6, .spine 3 [] [2], .spine 5 [] [2, 3, 4], .spine 7 [] [2, 3, 4, 5, 6], .pure 8, .pure 9, .spine 10 [] [0, 1, 2, 3, 4, 5, 6, 7, 8, 9]] mixed rfl rfl rfl rfl rfl ?_
   refine DM.pure (GX (tm' := [(5, _)]) rfl ⟨rfl, trivial⟩ rfl (DStep.yields (Yields.load_ptr_agg (j := 1) kd25 rfl rfl rfl rfl)) rfl) ?_
   refine DM.pure (GX (tm' := [(7, _)]) rfl ⟨rfl, trivial⟩ rfl (DStep.yields (mv rfl)) rfl) ?_
   refine DM.pure (GX (tm' := [(0, _)]) rfl ⟨rfl, trivial⟩ rfl (DStep.yields (mv rfl)) rfl) ?_
   refine DM.pure (GX (tm' := [(0, _)]) rfl ⟨rfl, trivial⟩ rfl (DStep.yields (mv rfl)) rfl) ?_
   refine DM.pure (GX (tm' := [(0, _)]) rfl ⟨rfl, trivial⟩ rfl (DStep.yields (mv rfl)) rfl) ?_
   refine DM.sp rfl rfl ?_
   refine DOpen.nil fun _ _ _ => ?_
   refine AOps.subT (tm' := [(41, _)]) ⟨rfl, trivial⟩ ?_
   refine AOps.callH (.inl trivial) (pick_AH b code q6 18 hc (by omega) (by omega) (by omega)) rfl rfl rfl (WkL.refl _) ?_
   rintro _ _ ⟨m7, q7, l1, l2, l3, l4, rfl, rfl⟩
   refine AOps.nil ?_
   refine SpK.mk rfl rfl ?_ ?_
   ·
    skip
    refine Stab.skip rfl ?_
    refine Stab.keep (GX (tm' := [(0, _)]) rfl ⟨rfl, trivial⟩ rfl (DStep.yields (mv rfl)) rfl) ?_
    refine Stab.keep (GX (tm' := [(0, _)]) rfl ⟨rfl, trivial⟩ rfl (DStep.yields (mv rfl)) rfl) ?_
    refine Stab.skip rfl ?_
    refine Stab.keep (GX (tm' := [(7, _)]) rfl ⟨rfl, trivial⟩ rfl (DStep.yields (mv rfl)) rfl) ?_
    refine Stab.keep (GX (tm' := [(5, _)]) rfl ⟨rfl, trivial⟩ rfl (DStep.yields (Yields.load_ptr_agg (j := 1) kd25 rfl rfl rfl rfl)) rfl) ?_
    exact trivial
   refine DM.sp rfl rfl ?_
   refine DOpen.nil fun _ _ _ => ?_
   refine AOps.subT (tm' := [(43, _)]) ⟨rfl, trivial⟩ ?_
   refine AOps.callH (.inl trivial) (pick_AH b code q7 3 hc (by omega) (by omega) (by omega)) rfl rfl rfl (WkL.refl _) ?_
   rintro _ _ ⟨m8, q8, l5, l6, l7, l8, rfl, rfl⟩
   refine AOps.nil ?_
   refine SpK.mk rfl rfl ?_ ?_
   ·
    skip
    refine Stab.skip rfl ?_
    refine Stab.skip rfl ?_
    refine Stab.keep (GX (tm' := [(0, _)]) rfl ⟨rfl, trivial⟩ rfl (DStep.yields (mv rfl)) rfl) ?_
    refine Stab.skip rfl ?_
    refine Stab.skip rfl ?_
    refine Stab.keep (GX (tm' := [(7, _)]) rfl ⟨rfl, trivial⟩ rfl (DStep.yields (mv rfl)) rfl) ?_
    refine Stab.keep (GX (tm' := [(5, _)]) rfl ⟨rfl, trivial⟩ rfl (DStep.yields (Yields.load_ptr_agg (j := 1) kd25 rfl rfl rfl rfl)) rfl) ?_
    exact trivial
   refine DM.sp rfl rfl ?_
   refine DOpen.nil fun _ _ _ => ?_
   refine AOps.subT (tm' := [(45, _)]) ⟨rfl, trivial⟩ ?_
   refine AOps.callH (.inl trivial) (anyName_AH b code q8 hc (by omega)) rfl rfl rfl (WkL.refl _) ?_
   rintro _ _ ⟨sn, q9, o1, o2, o3, rfl, rfl⟩
   refine AOps.nil ?_
   refine SpK.mk rfl rfl ?_ ?_
   ·
    skip
    refine Stab.skip rfl ?_
    refine Stab.skip rfl ?_
    refine Stab.skip rfl ?_
    refine Stab.skip rfl ?_
    refine Stab.skip rfl ?_
    refine Stab.skip rfl ?_
    refine Stab.keep (GX (tm' := [(7, _)]) rfl ⟨rfl, trivial⟩ rfl (DStep.yields (mv rfl)) rfl) ?_
    refine Stab.keep (GX (tm' := [(5, _)]) rfl ⟨rfl, trivial⟩ rfl (DStep.yields (Yields.load_ptr_agg (j := 1) kd25 rfl rfl rfl rfl)) rfl) ?_
    exact trivial
   refine DM.pure (GX (tm' := [(42, _), (44, _), (46, _)]) rfl ⟨rfl, rfl, rfl, trivial⟩ rfl (DStep.yields (Yields.build pl25 z25 rfl rfl)) rfl) ?_
   have hxb : Tr.bnd 1000000 (.mk m7 m8 sn []) := leaf_bnd _ _ _ (by omega)
   have hF := sput_AF (.mk m7 m8 sn []) hxb pp (.mk vk vn vt vks) u1 hpa (by omega)
   have hb := putT_bnd (.mk m7 m8 sn []) hxb pp (.mk vk vn vt vks) u1 hpa
   have hz := putT_size (.mk m7 m8 sn []) pp (.mk vk vn vt vks) hpa
   have hx1 : sizeT (.mk m7 m8 sn []) = 1 := by rw [sizeT, sizeTs]; omega
   refine trElim (putT (.mk vk vn vt vks) pp (.mk m7 m8 sn [])) fun zk zn zt zks hzz => ?_
   rw [hzz] at hF hb hz
   refine DM.pure (GX (tm' := [(39, _), (40, _), (47, _)]) rfl ⟨rfl, rfl, rfl, trivial⟩ rfl (DStep.callw (hF) rfl ⟨Wk.refl _, Wk.refl _, wk_leaf _ _ _, trivial⟩ rfl) rfl) ?_
   refine DM.sp rfl rfl ?_
   refine DOpen.nil fun _ _ _ => ?_
   refine AOps.subT (tm' := [(5, _), (48, _)]) ⟨rfl, rfl, trivial⟩ ?_
   refine AOps.store (j := 1) kd25 rfl rfl rfl rfl rfl rfl ?_
   refine AOps.nil ?_
   refine SpK.mk0 (Stab.all rfl) ?_
   refine DM.nil ?_
   refine AWP.seq ?_
   refine AWP.region ?_
   refine Y (Yields.load_ptr_agg (j := 1) kd25 rfl rfl rfl rfl) rfl ?_
   refine AOps.store (j := 3) kd25 rfl rfl rfl rfl rfl rfl ?_
   refine AOps.nil ?_
   refine AWP.ret ⟨.inl rfl, ?_⟩
   exact RetH.of (rs := [.cell 2 25]) (vs := [_]) rfl ⟨resOne.cell (j := 3) rfl rfl kd25 rfl rfl rfl, trivial⟩ (KeepR.cons 0 rfl KeepR.nil) (⟨.mk zk zn zt zks, q9, hb, by omega, by omega, by omega, rfl, rfl⟩)
  ·
   skip
   refine AWP.skip ?_
   refine AWP.seq ?_
   refine AWP.region ?_
   refine Y (Yields.load_ptr_agg (j := 1) kd25 rfl rfl rfl rfl) rfl ?_
   refine AOps.store (j := 3) kd25 rfl rfl rfl rfl rfl rfl ?_
   refine AOps.nil ?_
   refine AWP.ret ⟨.inl rfl, ?_⟩
   exact RetH.of (rs := [.cell 2 25]) (vs := [_]) rfl ⟨resOne.cell (j := 3) rfl rfl kd25 rfl rfl rfl, trivial⟩ (KeepR.cons 0 rfl KeepR.nil) (⟨.mk vk vn vt vks, q5, u1, by omega, by omega, by omega, rfl, rfl⟩)
def srcI (N : Nat) (b : Nat) (code : List UInt8) (p k : Nat) : AV → Hp → Prop := fun r hp' => ∃ (l : List Int) (q : Nat), l.length ≤ N ∧ p ≤ q ∧ q ≤ p + k ∧ r = .ro 1 (ints l) [] false ∧ hp' = [src b code q]
theorem path_AH (k : Tr) (b : Nat) (code : List UInt8) (p : Nat) (hk : k.bnd 1000000) (hz : sizeT k ≤ 200000) (hc : code.length ≤ 1048576) (hp : p ≤ 700000) : FnH 34 [src b code p] [.ptr (some b) 0 0 2, k.av, .ro 1 (ints []) [] false] (srcI 200001 b code p 10) := by
  obtain ⟨kd, nm, t, ks⟩ := k
  have hL := pathsT_length (.mk kd nm t ks)
  have hpos := sizeT_pos (.mk kd nm t ks)
  have hRl := rowsR_length (pathsT (.mk kd nm t ks))
  have hsh := pathsT_short (.mk kd nm t ks)
  refine AH.intro Tryz.func34 nm34 rfl rfl rfl fun w0 ok0 own0 => ?_
  refine AWP.seq ?_
  refine AWP.region ?_
  refine AOps.box rfl rfl rfl rfl fun b4 => ?_
  refine Y (ass rfl) rfl ?_
  refine AOps.nil ?_
  refine AWP.seq ?_
  refine AWP.region ?_
  refine Y (Yields.load_ptr_agg (j := 0) kd25 rfl rfl rfl rfl) rfl ?_
  refine AOps.callH (.inl trivial) (sbelow0_AH (.mk kd nm t ks) hk (by omega)) rfl rfl rfl ⟨Wk.refl _, Wk.nil, trivial⟩ ?_
  rintro _ _ ⟨Ba, rfl, rfl⟩
  refine Y (ass rfl) rfl ?_
  refine AOps.nil ?_
  refine AWP.seq ?_
  refine AWP.region ?_
  refine AOps.leads (Leads.freezeT 1 7 (.inl trivial) rfl (ownR.fz ⟨_, rfl, rfl⟩)) ?_
  generalize pathsT (.mk kd nm t ks) = L at hL hRl hsh
  refine AOps.step (DStep.buildRo sl35 z32 rfl rfl rfl rfl) rfl ?_
  refine Y (ass rfl) rfl ?_
  refine AOps.nil ?_
  refine AWP.seq ?_
  refine AWP.seq ?_
  refine AWP.region ?_
  refine Y (ass rfl) rfl ?_
  refine AOps.nil ?_
  refine AWP.block ?_
  refine AWP.loopV (α := Nat) (fun i : Nat => ⟨[(0, .ptr (some b) 0 0 2), (2, .ro 1 (ints []) [] false), (4, .ptr (some b4) 0 0 4), (7, .ro 1 (rowsR L) [] false), (8, .ro 1 [] [] false), (9, int i)], [src b code p, (some b4, ⟨4, [Tr.av (.mk kd nm t ks)]⟩)]⟩) (fun i : Nat => i ≤ L.length) (fun i : Nat => L.length - i) (0) ?_ ?_ ?_
  · exact Leads.keepR (KeepR.cons 1 rfl (KeepR.cons 0 rfl KeepR.nil)) ⟨rfl, rfl, rfl, rfl, rfl, rfl, trivial⟩
  ·
   show 0 ≤ L.length
   exact Nat.zero_le _
  ·
   rintro i hinv
   refine AWP.seq ?_
   refine AWP.seq ?_
   refine AWP.region ?_
   refine Y (mv rfl) rfl ?_
   refine Y (mv rfl) rfl ?_
   refine Y (Yields.len_ro sl35 rfl) rfl ?_
   refine Y (bn rfl rfl BinR.lss rfl) rfl ?_
   refine AOps.nil ?_
   refine AWP.condT rfl (fun g => ?_) (fun g => ?_)
   ·
    replace g := of_decide_eq_true g
    have hi : i ≤ L.length := hinv
    replace g : (i : Int) < ((rowsR L).length : Int) := g
    obtain ⟨pp, hpp, _⟩ := drop_at (l := L) (i := i) (by omega)
    have hps := hsh pp (List.mem_of_getElem? hpp)
    have hF := spart_AF (.mk kd nm t ks) hk pp (by omega)
    refine trElim (atV (.mk kd nm t ks) pp) fun zk zn zt zks hzz => ?_
    rw [hzz] at hF
    generalize (atT (.mk kd nm t ks) pp).isSome = ff at hF
    refine AWP.skip ?_
    refine AWP.seq ?_
    refine AWP.block ?_
    refine AWP.seq ?_
    refine AWP.prune (tm' := [(0, _), (2, _), (4, _), (7, _), (8, _), (9, _), (20, _)]) ⟨rfl, rfl, rfl, rfl, rfl, rfl, rfl, trivial⟩ ?_
    refine AWP.drawnM [] [.pure 0, .pure 1, .pure 2, .pure 3, .pure 4, .pure 5, .pure 6, .pure 7, .pure 8, .pure 9, .spine 10 [9] [0, 1, 2, 3, 4, 5, 6, 7, 9], .pure 11] mixed rfl rfl rfl rfl rfl ?_
    refine DM.pure (GX (tm' := [(4, _)]) rfl ⟨rfl, trivial⟩ rfl (DStep.yields (Yields.load_ptr_agg (j := 1) kd25 rfl rfl rfl rfl)) rfl) ?_
    refine DM.pure (GX (tm' := [(7, _)]) rfl ⟨rfl, trivial⟩ rfl (DStep.yields (mv rfl)) rfl) ?_
    refine DM.pure (GX (tm' := [(9, _)]) rfl ⟨rfl, trivial⟩ rfl (DStep.yields (mv rfl)) rfl) ?_
    refine DM.pure (GX (tm' := [(25, _), (26, _)]) rfl ⟨rfl, rfl, trivial⟩ rfl (DStep.yields (Yields.idx_roN sl35 rfl rfl rfl rfl (by omega))) rfl) ?_
    refine DM.pure (GX (tm' := [(27, _)]) rfl ⟨rfl, trivial⟩ rfl (DStep.yields (Yields.load_rop_one kd32 rfl (rowsR_at hpp) rfl)) rfl) ?_
    refine DM.pure (GX (tm' := [(24, _), (28, _)]) rfl ⟨rfl, rfl, trivial⟩ rfl (DStep.callro (hF) rfl rfl) rfl) ?_
    refine DM.pure (GX (tm' := [(29, _)]) rfl ⟨rfl, trivial⟩ rfl (DStep.yields (mv rfl)) rfl) ?_
    refine DM.pure (GX (tm' := [(23, _)]) rfl ⟨rfl, trivial⟩ rfl (DStep.yields (Yields.extract rfl rfl)) rfl) ?_
    refine DM.pure (GX (tm' := [(23, _)]) rfl ⟨rfl, trivial⟩ rfl (DStep.yields (Yields.extract rfl rfl)) rfl) ?_
    refine DM.pure (GXs (tm' := []) rfl trivial rfl rfl (DStepU.alloc z25 rfl rfl) rfl) ?_
    refine DM.sp rfl rfl ?_
    refine DOpen.optr rfl fun b10 => ?_
    refine DOpen.nil fun _ _ _ => ?_
    refine AOps.subT (tm' := [(10, _), (30, _)]) ⟨rfl, rfl, trivial⟩ ?_
    refine AOps.store (j := 0) kd25 rfl rfl rfl rfl rfl rfl ?_
    refine AOps.nil ?_
    refine SpK.mk0 ?_ ?_
    ·
     skip
     refine Stab.skip rfl ?_
     refine Stab.keep (GX (tm' := [(23, _)]) rfl ⟨rfl, trivial⟩ rfl (DStep.yields (Yields.extract rfl rfl)) rfl) ?_
     refine Stab.skip rfl ?_
     refine Stab.skip rfl ?_
     refine Stab.skip rfl ?_
     refine Stab.skip rfl ?_
     refine Stab.skip rfl ?_
     refine Stab.skip rfl ?_
     refine Stab.skip rfl ?_
     refine Stab.skip rfl ?_
     exact trivial
    refine DM.pure (GX (tm' := [(31, _)]) rfl ⟨rfl, trivial⟩ rfl (DStep.yields (ass rfl)) rfl) ?_
    refine DM.nil ?_
    refine AWP.seq ?_
    refine AWP.region ?_
    refine Y (ass rfl) rfl ?_
    refine AOps.nil ?_
    refine AWP.block ?_
    refine AWP.loopV (α := Nat) (fun j : Nat => ⟨[(0, .ptr (some b) 0 0 2), (2, .ro 1 (ints []) [] false), (4, .ptr (some b4) 0 0 4), (7, .ro 1 (rowsR L) [] false), (8, .ro 1 [] [] false), (9, int i), (10, .ptr (some b10) 0 0 4), (12, int j)], [src b code p, (some b4, ⟨4, [Tr.av (.mk kd nm t ks)]⟩), (some b10, ⟨4, [Tr.av (.mk zk zn zt zks)]⟩)]⟩) (fun j : Nat => True) (fun j : Nat => j) (0) ?_ ?_ ?_
    · exact Leads.keepR (KeepR.cons 1 rfl (KeepR.cons 1 rfl (KeepR.cons 0 rfl KeepR.nil))) ⟨rfl, rfl, rfl, rfl, rfl, rfl, rfl, rfl, trivial⟩
    ·
     show True
     trivial
    ·
     rintro j hinv
     refine AWP.seq ?_
     refine AWP.seq ?_
     refine AWP.region ?_
     refine Y (mv rfl) rfl ?_
     refine Y (mv rfl) rfl ?_
     refine Y (Yields.len_ro sl32 rfl) rfl ?_
     refine Y (bn rfl rfl BinR.lss rfl) rfl ?_
     refine AOps.nil ?_
     refine AWP.condT rfl (fun g2 => ?_) (fun g2 => ?_)
     ·
      replace g2 := of_decide_eq_true g2
      simp [ints] at g2; omega
     ·
      replace g2 := of_decide_eq_false g2
      refine AWP.exit ?_
      refine AWP.region ?_
      refine Y (mv rfl) rfl ?_
      refine Y (bn rfl rfl (BinR.addI (by omega) (by omega)) rfl) rfl ?_
      refine Y (ass rfl) rfl ?_
      refine AOps.nil ?_
      refine ⟨i + 1, ?_, ?_, ?_⟩
      ·
       show L.length - (i + 1) < L.length - i
       omega
      ·
       show (i + 1) ≤ L.length
       show i + 1 ≤ L.length; omega
      · exact Leads.keepR (KeepR.cons 0 rfl (KeepR.cons 0 rfl KeepR.nil)) ⟨rfl, rfl, rfl, rfl, rfl, rfl, trivial⟩
   ·
    replace g := of_decide_eq_false g
    refine AWP.exit ?_
    refine AWP.seq ?_
    refine AWP.seq ?_
    refine AWP.region ?_
    refine Y (mv rfl) rfl ?_
    refine Y (Yields.len_ro sl35 rfl) rfl ?_
    refine Y (bn rfl rfl BinR.eql rfl) rfl ?_
    refine Y (mv rfl) rfl ?_
    refine AOps.split 55 rfl (fun g3 => ?_) (fun g3 => ?_)
    ·
     replace g3 := eq_of_beq g3
     refine AOps.off' rfl rfl rfl rfl ?_
     refine AOps.off' rfl rfl rfl rfl ?_
     refine AOps.off' rfl rfl rfl rfl ?_
     refine Y (Yields.pick_true rfl rfl) rfl ?_
     refine AOps.nil ?_
     refine AWP.cond rfl (fun _ => ?_) (fun h => absurd h (by decide))
     refine AWP.region ?_
     refine Y (mv rfl) rfl ?_
     refine Y (ass rfl) rfl ?_
     refine AOps.nil ?_
     refine AWP.seq ?_
     refine AWP.region ?_
     refine AOps.buildSlice sl32 z3 rfl rfl rfl rfl rfl fun bo => ?_
     refine Y (mv rfl) rfl ?_
     refine Y (mv rfl) rfl ?_
     refine Y (mv rfl) rfl ?_
     refine Y (Yields.len_ro sl35 rfl) rfl ?_
     refine AOps.leads (Leads.pull 1 rfl) ?_
     refine AOps.callH (.inl trivial) (pick_AH b code p (rowsR L).length hc (by omega) (by omega) (by omega)) rfl rfl rfl (WkL.refl _) ?_
     rintro _ _ ⟨m6, q6, k5, k6, k7, k8, rfl, rfl⟩
     obtain ⟨pp, hpp, _⟩ := drop_at (l := L) (i := m6.toNat) (by omega)
     have hps := hsh pp (List.mem_of_getElem? hpp)
     have hpl := ints_length pp
     refine Y (Yields.idx_roN sl35 rfl rfl rfl (j := m6.toNat) (by omega) (by omega)) rfl ?_
     refine Y (Yields.load_rop_one kd32 rfl (rowsR_at hpp) rfl) rfl ?_
     refine AOps.appendE (j := 1) sl32 z3 rfl rfl rfl rfl rfl rfl rfl (src_ro rfl) (show 0 + (ints pp).length = pp.length by omega) (List.nil_append _) (by omega) (by omega) fun Bn => ?_
     refine Y (ass rfl) rfl ?_
     refine AOps.nil ?_
     refine AWP.seq ?_
     refine AWP.seq ?_
     refine AWP.region ?_
     refine Y (mv rfl) rfl ?_
     refine AOps.callH (.inl trivial) (rare_AH b code q6 hc (by omega)) rfl rfl rfl (WkL.refl _) ?_
     rintro _ _ ⟨m5, q5, n1, n2, rfl, rfl⟩
     refine AOps.nil ?_
     refine AWP.condT rfl (fun c1 => ?_) (fun c1 => ?_)
     ·
      skip
      refine AWP.region ?_
      refine Y (mv rfl) rfl ?_
      refine Y (mv rfl) rfl ?_
      refine AOps.callH (.inl trivial) (pick_AH b code q5 4 hc (by omega) (by omega) (by omega)) rfl rfl rfl (WkL.refl _) ?_
      rintro _ _ ⟨m7, q7, l1, l2, l3, l4, rfl, rfl⟩
      refine AOps.buildSlice sl32 z3 rfl rfl rfl rfl rfl fun bs => ?_
      refine AOps.appendE (j := 2) sl32 z3 rfl rfl rfl rfl rfl hpl rfl (src_row (j2 := 0) rfl rfl rfl) (show pp.length + 1 = (pp ++ [m7]).length by simp) (ints_app pp m7) (by simp; omega) (by simp; omega) fun Bq => ?_
      refine Y (ass rfl) rfl ?_
      refine AOps.nil ?_
      refine AWP.seq ?_
      refine AWP.region ?_
      refine AOps.leads (Leads.pull 2 rfl) ?_
      refine AOps.leads (Leads.freezeT 1 13 (.inl trivial) rfl (fz_ints rfl)) ?_
      refine Y (mv rfl) rfl ?_
      refine Y (ass rfl) rfl ?_
      refine AOps.nil ?_
      refine AWP.ret ⟨.inl rfl, ?_⟩
      exact RetH.of (rs := [.tmp 6]) (vs := [_]) rfl ⟨rfl, trivial⟩ (KeepR.cons 1 rfl KeepR.nil) (⟨pp ++ [m7], q7, by simp; omega, by omega, by omega, rfl, rfl⟩)
     ·
      skip
      refine AWP.skip ?_
      refine AWP.seq ?_
      refine AWP.region ?_
      refine AOps.leads (Leads.pull 1 rfl) ?_
      refine AOps.leads (Leads.freezeT 1 13 (.inl trivial) rfl (fz_ints rfl)) ?_
      refine Y (mv rfl) rfl ?_
      refine Y (ass rfl) rfl ?_
      refine AOps.nil ?_
      refine AWP.ret ⟨.inl rfl, ?_⟩
      exact RetH.of (rs := [.tmp 6]) (vs := [_]) rfl ⟨rfl, trivial⟩ (KeepR.cons 0 rfl KeepR.nil) (⟨pp, q5, by omega, by omega, by omega, rfl, rfl⟩)
    ·
     replace g3 := ne_of_beq_false g3
     simp at g3
def someV (N : Nat) : AV → Hp → Prop := fun r hp' => ∃ v : Tr, v.bnd 1000000 ∧ sizeT v ≤ N ∧ r = v.av ∧ hp' = []
def someVI (N : Nat) : AV → Hp → Prop := fun r hp' => ∃ (v : Tr) (l : List Int), v.bnd 1000000 ∧ sizeT v ≤ N ∧ l.length ≤ N + 1 ∧ r = .tup [v.av, .ro 1 (ints l) [] false] ∧ hp' = []
def someVIV (N : Nat) : AV → Hp → Prop := fun r hp' => ∃ (v : Tr) (l : List Int) (x : Tr), v.bnd 1000000 ∧ sizeT v ≤ N ∧ l.length ≤ N + 1 ∧ x.bnd 1000000 ∧ sizeT x ≤ N ∧ r = .tup [v.av, .ro 1 (ints l) [] false, x.av] ∧ hp' = []
end Go.Proofs.YteieleejhbljfaaGreat
