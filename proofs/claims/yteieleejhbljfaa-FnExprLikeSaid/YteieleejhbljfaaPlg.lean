/- The reference's plug where a name stands for a name; the draw of alike expressions; the law. -/
import Derived.Test.YteieleejhbljfaaNms
import Derived.Test.YteieleejhbljfaaSames
namespace Go.Proofs.Yteieleejhbljfaa
open Go Go.Ax Go.Proofs
set_option linter.unusedVariables false
set_option linter.unusedSimpArgs false
set_option maxRecDepth 20000
theorem scopied_AF (k : Tr) (hk : k.bnd 1000000) : Fn 54 [k.av] k.av :=
  AH.toF (by simp [plainL, plainV, Tr.plain_av]) (scopied_AH k hk) (fun r hp' h => ownT.fz h)
theorem sfree_AF (k : Tr) (hk : k.bnd 1000000) (hz : sizeT k ≤ 2000000) : Fn 47 [k.av] (.ro 1 (strs (freeT k)) [] false) :=
  AH.toF (by simp [plainL, plainV, Tr.plain_av]) (sfree_AH k hk hz) (fun r hp' h => ownS.fz h)
def noLarger (n : Int) : AV → Hp → Prop := fun r hp' => ∃ v : Tr, v.bnd 1000000 ∧ sizeT v ≤ n ∧ r = v.av ∧ hp' = []
theorem sizeTs_at {ks : List Tr} {i : Nat} {k : Tr} (h : ks[i]? = some k) : sizeTs (ks.drop i) = sizeT k + sizeTs (ks.drop (i + 1)) := by
  rw [drop_at' h, sizeTs]
theorem drop_le (ks : List Tr) : ∀ i : Nat, sizeTs (ks.drop i) ≤ sizeTs ks
  | 0 => by rw [List.drop_zero]; omega
  | i + 1 => by
    have := drop_le ks i
    cases h : ks[i]? with
    | none => rw [List.drop_eq_nil_of_le (by have := List.getElem?_eq_none_iff.1 h; omega), sizeTs]; exact sizeTs_pos ks
    | some k => rw [sizeTs_at h] at this; have := sizeT_pos k; omega
theorem plug_AH (n : Nat) : ∀ (k : Tr) (nm x : ByteArray) (l : List ByteArray), sizeT k ≤ n → k.bnd 1000000 → sizeT k ≤ 2000000 → x.size ≤ 1000000 → (l.length : Int) + sizeT k ≤ 3000000 →
    FnH 106 [] [k.av, str nm, (nameTr x).av, .ro 1 (strs l) [] false] (noLarger (sizeT k)) := by
  induction n with
  | zero => intro k nm x l h; have := sizeT_pos k; omega
  | succ n ih =>
  intro k name x l hn hk hz hx hl
  obtain ⟨kd, nm, t, ks⟩ := k
  simp only [Tr.bnd] at hk
  obtain ⟨hk1, hk2, hk3⟩ := hk
  have hlen := Tr.avs_length ks
  have hk0 : Tr.bnd 1000000 (.mk kd nm t ks) := ⟨hk1, hk2, hk3⟩
  have hxb : Tr.bnd 1000000 (nameTr x) := ⟨hx, by simp, trivial⟩
  have hxz : sizeT (nameTr x) = 1 := by rw [nameTr, sizeT, sizeTs]; omega
  have hzs := sizeTs_pos ks
  have hz1 : sizeT (.mk kd nm t ks) = 1 + sizeTs ks := by rw [sizeT]
  refine AH.intro Try.func106 nm106 rfl rfl rfl fun w0 ok0 own0 => ?_
  refine AWP.seq ?_
  refine AWP.region ?_
  refine AOps.box rfl rfl rfl rfl fun b4 => ?_
  refine AOps.box rfl rfl rfl rfl fun b6 => ?_
  refine AOps.alloc rfl z25 rfl rfl fun b8 => ?_
  refine AOps.nil ?_
  refine AWP.seq ?_
  refine AWP.seq ?_
  refine AWP.region ?_
  refine Y (Yields.fieldAddr_ptr fo25_0 rfl) rfl ?_
  refine Y (Yields.load_ptr_field (j := 2) kd3 rfl rfl rfl rfl rfl rfl rfl) rfl ?_
  refine Y (bn rfl rfl BinR.eql rfl) rfl ?_
  refine AOps.nil ?_
  refine AWP.condT rfl (fun c0 => ?_) (fun c0 => ?_)
  ·
   replace c0 := eq_of_beq c0
   refine AWP.seq ?_
   refine AWP.seq ?_
   refine AWP.region ?_
   refine Y (Yields.fieldAddr_ptr fo25_2 rfl) rfl ?_
   refine Y (Yields.load_ptr_field (j := 2) kd9 rfl rfl rfl rfl rfl rfl rfl) rfl ?_
   refine Y (mv rfl) rfl ?_
   refine Y (bn rfl rfl BinR.seql rfl) rfl ?_
   refine AOps.nil ?_
   refine AWP.condT rfl (fun c1 => ?_) (fun c1 => ?_)
   ·
    replace c1 := of_decide_eq_true c1
    refine AWP.seq ?_
    refine AWP.region ?_
    refine Y (Yields.load_ptr_agg (j := 1) kd25 rfl rfl rfl rfl) rfl ?_
    refine AOps.callro (scopied_AF (nameTr x) hxb) rfl rfl rfl ?_
    refine AOps.store (j := 0) kd25 rfl rfl rfl rfl rfl rfl ?_
    refine AOps.nil ?_
    refine AWP.ret ⟨.inl rfl, ?_⟩
    exact RetH.of (rs := [.cell 8 25]) (vs := [_]) rfl ⟨resOne.cell (j := 0) rfl rfl kd25 rfl rfl rfl, trivial⟩ KeepR.nil (⟨nameTr x, hxb, by omega, rfl, rfl⟩)
   ·
    replace c1 := of_decide_eq_false c1
    refine AWP.skip ?_
    refine AWP.seq ?_
    refine AWP.region ?_
    refine Y (Yields.load_ptr_agg (j := 2) kd25 rfl rfl rfl rfl) rfl ?_
    refine AOps.callro (scopied_AF (.mk kd nm t ks) hk0) rfl rfl rfl ?_
    refine AOps.store (j := 0) kd25 rfl rfl rfl rfl rfl rfl ?_
    refine AOps.nil ?_
    refine AWP.ret ⟨.inl rfl, ?_⟩
    exact RetH.of (rs := [.cell 8 25]) (vs := [_]) rfl ⟨resOne.cell (j := 0) rfl rfl kd25 rfl rfl rfl, trivial⟩ KeepR.nil (⟨(.mk kd nm t ks), hk0, by omega, rfl, rfl⟩)
  ·
   replace c0 := ne_of_beq_false c0
   refine AWP.skip ?_
   refine AWP.seq ?_
   refine AWP.region ?_
   refine Y (Yields.load_ptr_agg (j := 2) kd25 rfl rfl rfl rfl) rfl ?_
   refine AOps.alloc rfl z25 rfl rfl fun b9 => ?_
   refine AOps.store (j := 0) kd25 rfl rfl rfl rfl rfl rfl ?_
   refine AOps.nil ?_
   refine AWP.seq ?_
   refine AWP.region ?_
   refine Y (Yields.fieldAddr_ptr fo25_3 rfl) rfl ?_
   refine AOps.storeField (j := 0) kd23 rfl rfl rfl rfl rfl rfl rfl ?_
   refine AOps.nil ?_
   refine AWP.seq ?_
   refine AWP.seq ?_
   refine AWP.region ?_
   refine Y (ass rfl) rfl ?_
   refine AOps.nil ?_
   refine AWP.leads (Leads.rowWk 0 0 rfl rfl (Wk.agg (ps := [_, _, _, .loc none 0 0 0 4]) ⟨Wk.refl _, Wk.refl _, Wk.refl _, Wk.nilLoc (n := 4), trivial⟩)) ?_
   refine AWP.leads (Leads.row0 4) ?_
   refine AWP.block ?_
   refine AWP.loopV (α := Option Nat × List Tr × Nat × ByteArray) (fun pp : Option Nat × List Tr × Nat × ByteArray => match pp with | (B, ls, i, u) => ⟨[(1, str name), (3, .ro 1 (strs l) [] false), (4, .ptr (some b4) 0 0 4), (6, .ptr (some b6) 0 0 4), (8, .ptr (some b8) 0 0 4), (9, .ptr (some b9) 0 0 4), (10, int i)], [(some b9, ⟨4, [.agg [int kd, int nm, str u, .loc B 0 ls.length ls.length 4]]⟩), (B, ⟨4, Tr.avs ls⟩), (some b4, ⟨4, [Tr.av (.mk kd nm t ks)]⟩), (some b6, ⟨4, [Tr.av (nameTr x)]⟩), (some b8, ⟨4, [zero4]⟩)]⟩) (fun pp : Option Nat × List Tr × Nat × ByteArray => match pp with | (B, ls, i, u) => i ≤ ks.length ∧ ls.length = i ∧ Tr.bnds 1000000 ls ∧ sizeTs ls + sizeTs (ks.drop i) ≤ sizeTs ks ∧ u.size ≤ 1000000) (fun pp : Option Nat × List Tr × Nat × ByteArray => match pp with | (B, ls, i, u) => ks.length - i) ((none, [], 0, t)) ?_ ?_ ?_
   · exact Leads.keepR (KeepR.cons 1 rfl (KeepR.cons 0 rfl (KeepR.cons 2 rfl (KeepR.cons 1 rfl (KeepR.cons 0 rfl KeepR.nil))))) ⟨rfl, rfl, rfl, rfl, rfl, rfl, rfl, trivial⟩
   ·
    show 0 ≤ ks.length ∧ ([]).length = 0 ∧ Tr.bnds 1000000 ([]) ∧ sizeTs ([]) + sizeTs (ks.drop 0) ≤ sizeTs ks ∧ t.size ≤ 1000000
    exact ⟨Nat.zero_le _, rfl, trivial, by rw [List.drop_zero, sizeTs]; omega, hk1⟩
   ·
    rintro ⟨B, ls, i, u⟩ hinv
    replace hinv : i ≤ ks.length ∧ ls.length = i ∧ Tr.bnds 1000000 ls ∧ sizeTs ls + sizeTs (ks.drop i) ≤ sizeTs ks ∧ u.size ≤ 1000000 := hinv
    show AWP _ _ _ _ ⟨[(1, str name), (3, .ro 1 (strs l) [] false), (4, .ptr (some b4) 0 0 4), (6, .ptr (some b6) 0 0 4), (8, .ptr (some b8) 0 0 4), (9, .ptr (some b9) 0 0 4), (10, int i)], [(some b9, ⟨4, [.agg [int kd, int nm, str u, .loc B 0 ls.length ls.length 4]]⟩), (B, ⟨4, Tr.avs ls⟩), (some b4, ⟨4, [Tr.av (.mk kd nm t ks)]⟩), (some b6, ⟨4, [Tr.av (nameTr x)]⟩), (some b8, ⟨4, [zero4]⟩)]⟩
    refine AWP.seq ?_
    refine AWP.seq ?_
    refine AWP.region ?_
    obtain ⟨hi, hll, hlb, hls, hu⟩ := hinv
    refine Y (mv rfl) rfl ?_
    refine Y (Yields.fieldAddr_ptr fo25_3 rfl) rfl ?_
    refine Y (Yields.load_ptr_field (j := 2) kd23 rfl rfl rfl rfl rfl rfl rfl) rfl ?_
    refine Y (Yields.len_ro sl23 rfl) rfl ?_
    refine Y (bn rfl rfl BinR.lss rfl) rfl ?_
    refine AOps.nil ?_
    refine AWP.condT rfl (fun g => ?_) (fun g => ?_)
    ·
     replace g := of_decide_eq_true g
     obtain ⟨⟨zk, zn, zt, zks⟩, hkk, hd⟩ := drop_at (l := ks) (i := i) (by omega)
     have hkb := Tr.bnds_get hk3 hkk
     rw [sizeTs_at hkk] at hls
     have hdp := sizeTs_pos (ks.drop (i + 1))
     have hlp := sizeTs_pos ls
     have hkp := sizeT_pos (.mk zk zn zt zks)
     refine AWP.skip ?_
     refine AWP.seq ?_
     refine AWP.block ?_
     refine AWP.seq ?_
     refine AWP.region ?_
     refine Y (Yields.fieldAddr_ptr fo25_3 rfl) rfl ?_
     refine Y (Yields.load_ptr_field (j := 2) kd23 rfl rfl rfl rfl rfl rfl rfl) rfl ?_
     refine Y (mv rfl) rfl ?_
     refine Y (Yields.idx_roN sl23 rfl rfl rfl rfl (by omega)) rfl ?_
     refine Y (Yields.load_rop_aggV kd25 rfl (Tr.avs_at hkk) rfl) rfl ?_
     refine AOps.alloc rfl z25 rfl rfl fun b11 => ?_
     refine AOps.store (j := 0) kd25 rfl rfl rfl rfl rfl rfl ?_
     refine AOps.nil ?_
     refine AWP.midE (α := Int × Int × ByteArray × List Tr × ByteArray) (fun pp : Int × Int × ByteArray × List Tr × ByteArray => match pp with | (wk, wn, wt, wks, u2) => ⟨[(1, str name), (3, .ro 1 (strs l) [] false), (4, .ptr (some b4) 0 0 4), (6, .ptr (some b6) 0 0 4), (8, .ptr (some b8) 0 0 4), (9, .ptr (some b9) 0 0 4), (10, int i), (11, .ptr (some b11) 0 0 4)], [(some b11, ⟨4, [Tr.av (.mk wk wn wt wks)]⟩), (some b9, ⟨4, [.agg [int kd, int nm, str u2, .loc B 0 ls.length ls.length 4]]⟩), (B, ⟨4, Tr.avs ls⟩), (some b4, ⟨4, [Tr.av (.mk kd nm t ks)]⟩), (some b6, ⟨4, [Tr.av (nameTr x)]⟩), (some b8, ⟨4, [zero4]⟩)]⟩) (fun pp : Int × Int × ByteArray × List Tr × ByteArray => match pp with | (wk, wn, wt, wks, u2) => Tr.bnd 1000000 (.mk wk wn wt wks) ∧ sizeT (.mk wk wn wt wks) ≤ sizeT (.mk zk zn zt zks) ∧ u2.size ≤ 1000000) ?_ ?_
     ·
      skip
      refine AWP.block ?_
      refine AWP.seq ?_
      refine AWP.region ?_
      refine Y (Yields.load_ptr_agg (j := 3) kd25 rfl rfl rfl rfl) rfl ?_
      refine Y (mv rfl) rfl ?_
      refine AOps.callro (sbinds_AF kd nm t ks i) rfl rfl rfl ?_
      refine Y (mv rfl) rfl ?_
      refine AOps.split 46 rfl (fun g1 => ?_) (fun g1 => ?_)
      ·
       skip
       refine AOps.on rfl rfl ?_
       refine Y (Yields.fieldAddr_ptr fo25_2 rfl) rfl ?_
       refine AOps.on rfl rfl ?_
       refine Y (Yields.load_ptr_field (j := 3) kd9 rfl rfl rfl rfl rfl rfl rfl) rfl ?_
       refine AOps.on rfl rfl ?_
       refine Y (mv rfl) rfl ?_
       refine AOps.on rfl rfl ?_
       refine Y (bn rfl rfl BinR.seql rfl) rfl ?_
       refine Y (Yields.pick_true rfl rfl) rfl ?_
       refine Y (ass rfl) rfl ?_
       refine AOps.nil ?_
       refine AWP.condT rfl (fun g2 => ?_) (fun g2 => ?_)
       ·
        replace g2 := of_decide_eq_true g2
        refine AWP.region ?_
        refine Y (Yields.load_ptr_agg (j := 0) kd25 rfl rfl rfl rfl) rfl ?_
        refine AOps.callro (scopied_AF (.mk zk zn zt zks) hkb) rfl rfl rfl ?_
        refine AOps.store (j := 0) kd25 rfl rfl rfl rfl rfl rfl ?_
        refine AOps.nil ?_
        refine ⟨(zk, zn, zt, zks, u), ?_, ?_⟩
        ·
         show Tr.bnd 1000000 (.mk zk zn zt zks) ∧ sizeT (.mk zk zn zt zks) ≤ sizeT (.mk zk zn zt zks) ∧ u.size ≤ 1000000
         exact ⟨hkb, by omega, hu⟩
        · exact Leads.keepR (KeepR.cons 0 rfl (KeepR.cons 0 rfl (KeepR.cons 0 rfl (KeepR.cons 0 rfl (KeepR.cons 0 rfl (KeepR.cons 0 rfl KeepR.nil)))))) ⟨rfl, rfl, rfl, rfl, rfl, rfl, rfl, rfl, trivial⟩
       ·
        replace g2 := of_decide_eq_false g2
        refine AWP.seq ?_
        refine AWP.prune (tm' := [(1, _), (3, _), (4, _), (6, _), (8, _), (9, _), (10, _), (29, _), (11, _), (42, _)]) ⟨rfl, rfl, rfl, rfl, rfl, rfl, rfl, rfl, rfl, rfl, trivial⟩ ?_
        refine AWP.drawn mixed rfl rfl ?_
        refine D (tm' := [(4, _)]) ⟨rfl, trivial⟩ (DStep.yields (Yields.load_ptr_agg (j := 3) kd25 rfl rfl rfl rfl)) rfl ?_
        refine D (tm' := [(10, _)]) ⟨rfl, trivial⟩ (DStep.yields (mv rfl)) rfl ?_
        refine D (tm' := [(55, _), (56, _)]) ⟨rfl, rfl, trivial⟩ (DStep.callro (sbinds_AF kd nm t ks i) rfl rfl) rfl ?_
        refine D (tm' := [(57, _)]) ⟨rfl, trivial⟩ (DStep.yields (mv rfl)) rfl ?_
        refine DOps.split 3 rfl (fun g3 => ?_) (fun g3 => ?_)
        ·
         skip
         refine DOps.on rfl rfl ?_
         refine D (tm' := [(6, _)]) ⟨rfl, trivial⟩ (DStep.yields (Yields.load_ptr_agg (j := 4) kd25 rfl rfl rfl rfl)) rfl ?_
         refine DOps.on rfl rfl ?_
         refine D (tm' := [(59, _)]) ⟨rfl, trivial⟩ (DStep.callro (sfree_AF (nameTr x) hxb (by omega)) rfl rfl) rfl ?_
         refine DOps.on rfl rfl ?_
         refine D (tm' := [(4, _)]) ⟨rfl, trivial⟩ (DStep.yields (Yields.fieldAddr_ptr fo25_2 rfl)) rfl ?_
         refine DOps.on rfl rfl ?_
         refine D (tm' := [(61, _)]) ⟨rfl, trivial⟩ (DStep.yields (Yields.load_ptr_field (j := 3) kd9 rfl rfl rfl rfl rfl rfl rfl)) rfl ?_
         refine DOps.on rfl rfl ?_
         refine D (tm' := [(60, _), (62, _)]) ⟨rfl, rfl, trivial⟩ (DStep.callro (inTexts_AF (freeT (nameTr x)) [] false t (by have := freeT_length (nameTr x); omega)) rfl rfl) rfl ?_
         refine D (tm' := [(58, _), (63, _)]) ⟨rfl, rfl, trivial⟩ (DStep.yields (Yields.pick_true rfl rfl)) rfl ?_
         refine D (tm' := [(64, _)]) ⟨rfl, trivial⟩ (DStep.yields (mv rfl)) rfl ?_
         refine DOps.split 10 rfl (fun g4 => ?_) (fun g4 => ?_)
         ·
          skip
          refine DOps.on rfl rfl ?_
          refine D (tm' := [(11, _)]) ⟨rfl, trivial⟩ (DStep.yields (Yields.load_ptr_agg (j := 0) kd25 rfl rfl rfl rfl)) rfl ?_
          refine DOps.on rfl rfl ?_
          refine D (tm' := [(66, _)]) ⟨rfl, trivial⟩ (DStep.callro (sfree_AF (.mk zk zn zt zks) hkb (by omega)) rfl rfl) rfl ?_
          refine DOps.on rfl rfl ?_
          refine D (tm' := [(1, _)]) ⟨rfl, trivial⟩ (DStep.yields (mv rfl)) rfl ?_
          refine DOps.on rfl rfl ?_
          refine D (tm' := [(67, _), (68, _)]) ⟨rfl, rfl, trivial⟩ (DStep.callro (inTexts_AF (freeT (.mk zk zn zt zks)) [] false name (by have := freeT_length (.mk zk zn zt zks); omega)) rfl rfl) rfl ?_
          refine D (tm' := [(65, _), (69, _)]) ⟨rfl, rfl, trivial⟩ (DStep.yields (Yields.pick_true rfl rfl)) rfl ?_
          refine D (tm' := [(70, _)]) ⟨rfl, trivial⟩ (DStep.yields (ass rfl)) rfl ?_
          refine DOps.nil ?_
          refine AWP.condT rfl (fun g5 => ?_) (fun g5 => ?_)
          ·
           skip
           refine AWP.seq ?_
           have hnl := namesT_length (.mk zk zn zt zks)
           have hnF := snames_AF (.mk zk zn zt zks) hkb (by omega)
           refine AWP.prune (tm' := [(1, _), (3, _), (4, _), (6, _), (8, _), (9, _), (10, _), (29, _), (11, _), (42, _), (54, _)]) ⟨rfl, rfl, rfl, rfl, rfl, rfl, rfl, rfl, rfl, rfl, rfl, trivial⟩ ?_
           refine AWP.drawnM [] [.pure 0, .pure 1, .pure 2, .pure 3, .pure 5, .spine 4 [2] [2, 3], .pure 6, .spine 7 [] [2, 3, 4, 5, 6], .spine 8 [] [0, 1, 2, 3, 4, 5, 6, 7], .pure 9, .spine 10 [] [0, 1, 2, 3, 4, 5, 6, 7, 8, 9]] mixed rfl rfl rfl rfl rfl ?_
           refine DM.pure (GX (tm' := [(4, _)]) rfl ⟨rfl, trivial⟩ rfl (DStep.yields (Yields.fieldAddr_ptr fo25_2 rfl)) rfl) ?_
           refine DM.pure (GX (tm' := [(71, _)]) rfl ⟨rfl, trivial⟩ rfl (DStep.yields (Yields.load_ptr_field (j := 3) kd9 rfl rfl rfl rfl rfl rfl rfl)) rfl) ?_
           refine DM.pure (GXs (tm' := []) rfl trivial rfl rfl (DStepU.buildSlice sl35 z9 rfl rfl rfl rfl) rfl) ?_
           refine DM.pure (GX (tm' := [(3, _)]) rfl ⟨rfl, trivial⟩ rfl (DStep.yields (mv rfl)) rfl) ?_
           refine DM.pure (GX (tm' := [(11, _)]) rfl ⟨rfl, trivial⟩ rfl (DStep.yields (Yields.load_ptr_agg (j := 0) kd25 rfl rfl rfl rfl)) rfl) ?_
           refine DM.sp rfl rfl ?_
           refine DOpen.own rfl fun Ba => ?_
           refine DOpen.nil fun _ _ _ => ?_
           refine AOps.subT (tm' := [(73, _), (74, _)]) ⟨rfl, rfl, trivial⟩ ?_
           refine AOps.appendE (j := 0) sl35 z9 rfl rfl rfl rfl rfl rfl rfl (src_ro rfl) (show 0 + (strs l).length = l.length by simp [strs]) (List.nil_append _) (by omega) (by omega) fun Bb => ?_
           refine AOps.nil ?_
           refine SpK.mk rfl rfl ?_ ?_
           ·
            skip
            refine Stab.skip rfl ?_
            refine Stab.keep (GX (tm' := [(11, _)]) rfl ⟨rfl, trivial⟩ rfl (DStep.yields (Yields.load_ptr_agg (j := 1) kd25 rfl rfl rfl rfl)) rfl) ?_
            refine Stab.skip rfl ?_
            refine Stab.skip rfl ?_
            refine Stab.keep (GX (tm' := [(71, _)]) rfl ⟨rfl, trivial⟩ rfl (DStep.yields (Yields.load_ptr_field (j := 4) kd9 rfl rfl rfl rfl rfl rfl rfl)) rfl) ?_
            refine Stab.keep (GX (tm' := [(4, _)]) rfl ⟨rfl, trivial⟩ rfl (DStep.yields (Yields.fieldAddr_ptr fo25_2 rfl)) rfl) ?_
            exact trivial
           refine DM.pure (GX (tm' := [(76, _)]) rfl ⟨rfl, trivial⟩ rfl (DStep.callro (hnF) rfl rfl) rfl) ?_
           refine DM.sp rfl rfl ?_
           refine DOpen.nil fun _ _ _ => ?_
           refine AOps.subT (tm' := [(75, _), (77, _)]) ⟨rfl, rfl, trivial⟩ ?_
           refine AOps.callH (.inl trivial) (joined_AH l (namesT (.mk zk zn zt zks)) Bb (by omega)) rfl rfl rfl (WkL.refl _) ?_
           rintro _ _ ⟨Bj, rfl, rfl⟩
           refine AOps.nil ?_
           refine SpK.mk rfl rfl ?_ ?_
           ·
            skip
            refine Stab.skip rfl ?_
            refine Stab.skip rfl ?_
            refine Stab.skip rfl ?_
            refine Stab.skip rfl ?_
            refine Stab.skip rfl ?_
            refine Stab.skip rfl ?_
            refine Stab.keep (GX (tm' := [(71, _)]) rfl ⟨rfl, trivial⟩ rfl (DStep.yields (Yields.load_ptr_field (j := 4) kd9 rfl rfl rfl rfl rfl rfl rfl)) rfl) ?_
            refine Stab.keep (GX (tm' := [(4, _)]) rfl ⟨rfl, trivial⟩ rfl (DStep.yields (Yields.fieldAddr_ptr fo25_2 rfl)) rfl) ?_
            exact trivial
           refine DM.sp rfl rfl ?_
           refine DOpen.nil fun _ _ _ => ?_
           refine AOps.subT (tm' := [(72, _), (78, _)]) ⟨rfl, rfl, trivial⟩ ?_
           refine AOps.leads (Leads.freezeT 1 78 (.inl trivial) rfl (ownS.fz ⟨_, rfl, rfl⟩)) ?_
           refine AOps.callro (fresh_AF t (joinL l (namesT (.mk zk zn zt zks))) hk1 (by have := joinL_length (namesT (.mk zk zn zt zks)) l; omega)) rfl rfl rfl ?_
           refine AOps.nil ?_
           refine SpK.mk rfl rfl (Stab.all rfl) ?_
           have hfs : (freshB t (joinL l (namesT (.mk zk zn zt zks)))).size ≤ 1000000 := by have := freshB_size t (joinL l (namesT (.mk zk zn zt zks))); omega
           generalize freshB t (joinL l (namesT (.mk zk zn zt zks))) = fr at hfs
           refine DM.pure (GX (tm' := [(9, _)]) rfl ⟨rfl, trivial⟩ rfl (DStep.yields (Yields.fieldAddr_ptr fo25_2 rfl)) rfl) ?_
           refine DM.sp rfl rfl ?_
           refine DOpen.nil fun _ _ _ => ?_
           refine AOps.subT (tm' := [(80, _), (79, _)]) ⟨rfl, rfl, trivial⟩ ?_
           refine AOps.storeField (j := 1) kd9 rfl rfl rfl rfl rfl rfl rfl ?_
           refine AOps.nil ?_
           refine SpK.mk0 (Stab.all rfl) ?_
           refine DM.nil ?_
           refine AWP.prune (tm' := [(1, _), (3, _), (4, _), (6, _), (8, _), (9, _), (10, _), (29, _), (11, _), (42, _), (54, _)]) ⟨rfl, rfl, rfl, rfl, rfl, rfl, rfl, rfl, rfl, rfl, rfl, trivial⟩ ?_
           refine AWP.drawnM [] [.pure 0, .pure 1, .pure 2, .pure 3, .pure 4, .pure 5, .pure 6, .pure 8, .pure 9, .pure 10, .pure 11, .pure 13, .pure 14, .pure 15, .spine 7 [] [0, 1, 2, 3, 4, 5, 6], .spine 12 [10] [0, 1, 2, 3, 4, 5, 6, 7, 10, 11], .spine 16 [] [0, 1, 2, 3, 4, 5, 6, 7, 10, 11, 12, 13, 14, 15], .spine 17 [] [0, 1, 2, 3, 4, 5, 6, 7, 8, 9, 10, 11, 12, 13, 14, 15, 16], .spine 18 [] [0, 1, 2, 3, 4, 5, 6, 7, 8, 9, 10, 11, 12, 13, 14, 15, 16, 17]] mixed rfl rfl rfl rfl rfl ?_
           refine DM.pure (GX (tm' := [(11, _)]) rfl ⟨rfl, trivial⟩ rfl (DStep.yields (Yields.load_ptr_agg (j := 0) kd25 rfl rfl rfl rfl)) rfl) ?_
           refine DM.pure (GX (tm' := [(4, _)]) rfl ⟨rfl, trivial⟩ rfl (DStep.yields (Yields.fieldAddr_ptr fo25_2 rfl)) rfl) ?_
           refine DM.pure (GX (tm' := [(82, _)]) rfl ⟨rfl, trivial⟩ rfl (DStep.yields (Yields.load_ptr_field (j := 3) kd9 rfl rfl rfl rfl rfl rfl rfl)) rfl) ?_
           refine DM.pure (GX (tm' := [(9, _)]) rfl ⟨rfl, trivial⟩ rfl (DStep.yields (Yields.fieldAddr_ptr fo25_2 rfl)) rfl) ?_
           refine DM.pure (GX (tm' := [(84, _)]) rfl ⟨rfl, trivial⟩ rfl (DStep.yields (Yields.load_ptr_field (j := 1) kd9 rfl rfl rfl rfl rfl rfl rfl)) rfl) ?_
           refine DM.pure (GX (tm' := [(85, _)]) rfl ⟨rfl, trivial⟩ rfl (DStep.yields (Yields.build pl25 z25 rfl rfl)) rfl) ?_
           refine DM.pure (GX (tm' := [(3, _)]) rfl ⟨rfl, trivial⟩ rfl (DStep.yields (mv rfl)) rfl) ?_
           refine DM.pure (GX (tm' := [(1, _)]) rfl ⟨rfl, trivial⟩ rfl (DStep.yields (mv rfl)) rfl) ?_
           refine DM.pure (GX (tm' := [(6, _)]) rfl ⟨rfl, trivial⟩ rfl (DStep.yields (Yields.load_ptr_agg (j := 4) kd25 rfl rfl rfl rfl)) rfl) ?_
           refine DM.pure (GXs (tm' := []) rfl trivial rfl rfl (DStepU.buildSlice sl35 z9 rfl rfl rfl rfl) rfl) ?_
           refine DM.pure (GX (tm' := [(3, _)]) rfl ⟨rfl, trivial⟩ rfl (DStep.yields (mv rfl)) rfl) ?_
           refine DM.pure (GX (tm' := [(9, _)]) rfl ⟨rfl, trivial⟩ rfl (DStep.yields (Yields.fieldAddr_ptr fo25_2 rfl)) rfl) ?_
           refine DM.pure (GX (tm' := [(94, _)]) rfl ⟨rfl, trivial⟩ rfl (DStep.yields (Yields.load_ptr_field (j := 1) kd9 rfl rfl rfl rfl rfl rfl rfl)) rfl) ?_
           refine DM.pure (GX (tm' := [(95, _)]) rfl ⟨rfl, trivial⟩ rfl (DStep.buildRo sl35 z9 rfl rfl rfl rfl) rfl) ?_
           refine DM.sp rfl rfl ?_
           refine DOpen.nil fun _ _ _ => ?_
           refine AOps.subT (tm' := [(81, _), (83, _), (86, _), (87, _)]) ⟨rfl, rfl, rfl, rfl, trivial⟩ ?_
           refine AOps.callH (.inl trivial) (ih (.mk zk zn zt zks) t fr l (by omega) hkb (by omega) hfs (by omega)) rfl rfl rfl ⟨Wk.refl _, Wk.refl _, wk_leaf _ _ _, Wk.refl _, trivial⟩ ?_
           rintro _ _ ⟨⟨yk, yn, yt, yks⟩, y1, y2, rfl, rfl⟩
           refine AOps.nil ?_
           refine SpK.mk rfl rfl ?_ ?_
           ·
            skip
            refine Stab.skip rfl ?_
            refine Stab.keep (GX (tm' := [(95, _)]) rfl ⟨rfl, trivial⟩ rfl (DStep.buildRo sl35 z9 rfl rfl rfl rfl) rfl) ?_
            refine Stab.keep (GX (tm' := [(94, _)]) rfl ⟨rfl, trivial⟩ rfl (DStep.yields (Yields.load_ptr_field (j := 1) kd9 rfl rfl rfl rfl rfl rfl rfl)) rfl) ?_
            refine Stab.keep (GX (tm' := [(9, _)]) rfl ⟨rfl, trivial⟩ rfl (DStep.yields (Yields.fieldAddr_ptr fo25_2 rfl)) rfl) ?_
            refine Stab.keep (GX (tm' := [(3, _)]) rfl ⟨rfl, trivial⟩ rfl (DStep.yields (mv rfl)) rfl) ?_
            refine Stab.keep (GXs (tm' := []) rfl trivial rfl rfl (DStepU.buildSlice sl35 z9 rfl rfl rfl rfl) rfl) ?_
            refine Stab.keep (GX (tm' := [(6, _)]) rfl ⟨rfl, trivial⟩ rfl (DStep.yields (Yields.load_ptr_agg (j := 4) kd25 rfl rfl rfl rfl)) rfl) ?_
            refine Stab.keep (GX (tm' := [(1, _)]) rfl ⟨rfl, trivial⟩ rfl (DStep.yields (mv rfl)) rfl) ?_
            refine Stab.skip rfl ?_
            refine Stab.skip rfl ?_
            refine Stab.skip rfl ?_
            refine Stab.skip rfl ?_
            refine Stab.skip rfl ?_
            refine Stab.skip rfl ?_
            refine Stab.skip rfl ?_
            exact trivial
           refine DM.sp rfl rfl ?_
           refine DOpen.own rfl fun Bc => ?_
           refine DOpen.nil fun _ _ _ => ?_
           refine AOps.subT (tm' := [(91, _), (92, _)]) ⟨rfl, rfl, trivial⟩ ?_
           refine AOps.appendE (j := 0) sl35 z9 rfl rfl rfl rfl rfl rfl rfl (src_ro rfl) (show 0 + (strs l).length = l.length by simp [strs]) (List.nil_append _) (by omega) (by omega) fun Bd => ?_
           refine AOps.nil ?_
           refine SpK.mk rfl rfl ?_ ?_
           ·
            skip
            refine Stab.skip rfl ?_
            refine Stab.skip rfl ?_
            refine Stab.keep (GX (tm' := [(95, _)]) rfl ⟨rfl, trivial⟩ rfl (DStep.buildRo sl35 z9 rfl rfl rfl rfl) rfl) ?_
            refine Stab.keep (GX (tm' := [(94, _)]) rfl ⟨rfl, trivial⟩ rfl (DStep.yields (Yields.load_ptr_field (j := 2) kd9 rfl rfl rfl rfl rfl rfl rfl)) rfl) ?_
            refine Stab.keep (GX (tm' := [(9, _)]) rfl ⟨rfl, trivial⟩ rfl (DStep.yields (Yields.fieldAddr_ptr fo25_2 rfl)) rfl) ?_
            refine Stab.skip rfl ?_
            refine Stab.skip rfl ?_
            refine Stab.keep (GX (tm' := [(6, _)]) rfl ⟨rfl, trivial⟩ rfl (DStep.yields (Yields.load_ptr_agg (j := 5) kd25 rfl rfl rfl rfl)) rfl) ?_
            refine Stab.keep (GX (tm' := [(1, _)]) rfl ⟨rfl, trivial⟩ rfl (DStep.yields (mv rfl)) rfl) ?_
            refine Stab.skip rfl ?_
            refine Stab.skip rfl ?_
            refine Stab.skip rfl ?_
            refine Stab.skip rfl ?_
            refine Stab.skip rfl ?_
            refine Stab.skip rfl ?_
            refine Stab.skip rfl ?_
            exact trivial
           refine DM.sp rfl rfl ?_
           refine DOpen.nil fun _ _ _ => ?_
           refine AOps.subT (tm' := [(93, _), (96, _)]) ⟨rfl, rfl, trivial⟩ ?_
           refine AOps.callH (.inl trivial) (joined_AH l [fr] Bd (by simp; omega)) rfl rfl rfl (WkL.refl _) ?_
           rintro _ _ ⟨Be, rfl, rfl⟩
           refine AOps.nil ?_
           refine SpK.mk rfl rfl ?_ ?_
           ·
            skip
            refine Stab.skip rfl ?_
            refine Stab.skip rfl ?_
            refine Stab.skip rfl ?_
            refine Stab.skip rfl ?_
            refine Stab.skip rfl ?_
            refine Stab.skip rfl ?_
            refine Stab.skip rfl ?_
            refine Stab.skip rfl ?_
            refine Stab.keep (GX (tm' := [(6, _)]) rfl ⟨rfl, trivial⟩ rfl (DStep.yields (Yields.load_ptr_agg (j := 5) kd25 rfl rfl rfl rfl)) rfl) ?_
            refine Stab.keep (GX (tm' := [(1, _)]) rfl ⟨rfl, trivial⟩ rfl (DStep.yields (mv rfl)) rfl) ?_
            refine Stab.skip rfl ?_
            refine Stab.skip rfl ?_
            refine Stab.skip rfl ?_
            refine Stab.skip rfl ?_
            refine Stab.skip rfl ?_
            refine Stab.skip rfl ?_
            refine Stab.skip rfl ?_
            exact trivial
           refine DM.sp rfl rfl ?_
           refine DOpen.nil fun _ _ _ => ?_
           refine AOps.subT (tm' := [(88, _), (89, _), (90, _), (97, _)]) ⟨rfl, rfl, rfl, rfl, trivial⟩ ?_
           refine AOps.leads (Leads.freezeT 1 97 (.inl trivial) rfl (ownS.fz ⟨_, rfl, rfl⟩)) ?_
           refine AOps.callH (.inl trivial) (ih (.mk yk yn yt yks) name x (joinL l [fr]) (by omega) y1 (by omega) hx (by have := joinL_length [fr] l; simp at this; omega)) rfl rfl rfl (WkL.refl _) ?_
           rintro _ _ ⟨⟨qk, qn, qt, qks⟩, z1, z2, rfl, rfl⟩
           refine AOps.nil ?_
           refine SpK.mk rfl rfl (Stab.all rfl) ?_
           refine DM.sp rfl rfl ?_
           refine DOpen.nil fun _ _ _ => ?_
           refine AOps.subT (tm' := [(11, _), (98, _)]) ⟨rfl, rfl, trivial⟩ ?_
           refine AOps.store (j := 0) kd25 rfl rfl rfl rfl rfl rfl ?_
           refine AOps.nil ?_
           refine SpK.mk0 (Stab.all rfl) ?_
           refine DM.nil ?_
           refine ⟨(qk, qn, qt, qks, fr), ?_, ?_⟩
           ·
            show Tr.bnd 1000000 (.mk qk qn qt qks) ∧ sizeT (.mk qk qn qt qks) ≤ sizeT (.mk zk zn zt zks) ∧ fr.size ≤ 1000000
            exact ⟨z1, by omega, hfs⟩
           · exact Leads.keepR (KeepR.cons 0 rfl (KeepR.cons 0 rfl (KeepR.cons 0 rfl (KeepR.cons 0 rfl (KeepR.cons 0 rfl (KeepR.cons 0 rfl KeepR.nil)))))) ⟨rfl, rfl, rfl, rfl, rfl, rfl, rfl, rfl, trivial⟩
          ·
           skip
           refine AWP.region ?_
           refine Y (Yields.load_ptr_agg (j := 0) kd25 rfl rfl rfl rfl) rfl ?_
           refine Y (mv rfl) rfl ?_
           refine Y (Yields.load_ptr_agg (j := 4) kd25 rfl rfl rfl rfl) rfl ?_
           refine Y (mv rfl) rfl ?_
           refine AOps.callH (.inl trivial) (ih (.mk zk zn zt zks) name x l (by omega) hkb (by omega) hx (by omega)) rfl rfl rfl (WkL.refl _) ?_
           rintro _ _ ⟨⟨qk, qn, qt, qks⟩, z1, z2, rfl, rfl⟩
           refine AOps.store (j := 0) kd25 rfl rfl rfl rfl rfl rfl ?_
           refine AOps.nil ?_
           refine ⟨(qk, qn, qt, qks, u), ?_, ?_⟩
           ·
            show Tr.bnd 1000000 (.mk qk qn qt qks) ∧ sizeT (.mk qk qn qt qks) ≤ sizeT (.mk zk zn zt zks) ∧ u.size ≤ 1000000
            exact ⟨z1, by omega, hu⟩
           · exact Leads.keepR (KeepR.cons 0 rfl (KeepR.cons 0 rfl (KeepR.cons 0 rfl (KeepR.cons 0 rfl (KeepR.cons 0 rfl (KeepR.cons 0 rfl KeepR.nil)))))) ⟨rfl, rfl, rfl, rfl, rfl, rfl, rfl, rfl, trivial⟩
         ·
          skip
          refine DOps.off rfl rfl rfl rfl ?_
          refine DOps.off rfl rfl rfl rfl ?_
          refine DOps.off rfl rfl rfl rfl ?_
          refine DOps.off rfl rfl rfl rfl ?_
          refine D (tm' := [(65, _), (69, _)]) ⟨rfl, rfl, trivial⟩ (DStep.yields (Yields.pick_false rfl rfl)) rfl ?_
          refine D (tm' := [(70, _)]) ⟨rfl, trivial⟩ (DStep.yields (ass rfl)) rfl ?_
          refine DOps.nil ?_
          refine AWP.cond rfl (fun h => absurd h (by decide)) (fun _ => ?_)
          refine AWP.region ?_
          refine Y (Yields.load_ptr_agg (j := 0) kd25 rfl rfl rfl rfl) rfl ?_
          refine Y (mv rfl) rfl ?_
          refine Y (Yields.load_ptr_agg (j := 4) kd25 rfl rfl rfl rfl) rfl ?_
          refine Y (mv rfl) rfl ?_
          refine AOps.callH (.inl trivial) (ih (.mk zk zn zt zks) name x l (by omega) hkb (by omega) hx (by omega)) rfl rfl rfl (WkL.refl _) ?_
          rintro _ _ ⟨⟨qk, qn, qt, qks⟩, z1, z2, rfl, rfl⟩
          refine AOps.store (j := 0) kd25 rfl rfl rfl rfl rfl rfl ?_
          refine AOps.nil ?_
          refine ⟨(qk, qn, qt, qks, u), ?_, ?_⟩
          ·
           show Tr.bnd 1000000 (.mk qk qn qt qks) ∧ sizeT (.mk qk qn qt qks) ≤ sizeT (.mk zk zn zt zks) ∧ u.size ≤ 1000000
           exact ⟨z1, by omega, hu⟩
          · exact Leads.keepR (KeepR.cons 0 rfl (KeepR.cons 0 rfl (KeepR.cons 0 rfl (KeepR.cons 0 rfl (KeepR.cons 0 rfl (KeepR.cons 0 rfl KeepR.nil)))))) ⟨rfl, rfl, rfl, rfl, rfl, rfl, rfl, rfl, trivial⟩
        ·
         skip
         refine DOps.off rfl rfl rfl rfl ?_
         refine DOps.off rfl rfl rfl rfl ?_
         refine DOps.off rfl rfl rfl rfl ?_
         refine DOps.off rfl rfl rfl rfl ?_
         refine DOps.off rfl rfl rfl rfl ?_
         refine D (tm' := [(58, _), (63, _)]) ⟨rfl, rfl, trivial⟩ (DStep.yields (Yields.pick_false rfl rfl)) rfl ?_
         refine D (tm' := [(64, _)]) ⟨rfl, trivial⟩ (DStep.yields (mv rfl)) rfl ?_
         refine DOps.off rfl rfl rfl rfl ?_
         refine DOps.off rfl rfl rfl rfl ?_
         refine DOps.off rfl rfl rfl rfl ?_
         refine DOps.off rfl rfl rfl rfl ?_
         refine D (tm' := [(65, _), (69, _)]) ⟨rfl, rfl, trivial⟩ (DStep.yields (Yields.pick_false rfl rfl)) rfl ?_
         refine D (tm' := [(70, _)]) ⟨rfl, trivial⟩ (DStep.yields (ass rfl)) rfl ?_
         refine DOps.nil ?_
         refine AWP.cond rfl (fun h => absurd h (by decide)) (fun _ => ?_)
         refine AWP.region ?_
         refine Y (Yields.load_ptr_agg (j := 0) kd25 rfl rfl rfl rfl) rfl ?_
         refine Y (mv rfl) rfl ?_
         refine Y (Yields.load_ptr_agg (j := 4) kd25 rfl rfl rfl rfl) rfl ?_
         refine Y (mv rfl) rfl ?_
         refine AOps.callH (.inl trivial) (ih (.mk zk zn zt zks) name x l (by omega) hkb (by omega) hx (by omega)) rfl rfl rfl (WkL.refl _) ?_
         rintro _ _ ⟨⟨qk, qn, qt, qks⟩, z1, z2, rfl, rfl⟩
         refine AOps.store (j := 0) kd25 rfl rfl rfl rfl rfl rfl ?_
         refine AOps.nil ?_
         refine ⟨(qk, qn, qt, qks, u), ?_, ?_⟩
         ·
          show Tr.bnd 1000000 (.mk qk qn qt qks) ∧ sizeT (.mk qk qn qt qks) ≤ sizeT (.mk zk zn zt zks) ∧ u.size ≤ 1000000
          exact ⟨z1, by omega, hu⟩
         · exact Leads.keepR (KeepR.cons 0 rfl (KeepR.cons 0 rfl (KeepR.cons 0 rfl (KeepR.cons 0 rfl (KeepR.cons 0 rfl (KeepR.cons 0 rfl KeepR.nil)))))) ⟨rfl, rfl, rfl, rfl, rfl, rfl, rfl, rfl, trivial⟩
      ·
       skip
       refine AOps.off' rfl rfl rfl rfl ?_
       refine AOps.off' rfl rfl rfl rfl ?_
       refine AOps.off' rfl rfl rfl rfl ?_
       refine AOps.off' rfl rfl rfl rfl ?_
       refine Y (Yields.pick_false rfl rfl) rfl ?_
       refine Y (ass rfl) rfl ?_
       refine AOps.nil ?_
       refine AWP.cond rfl (fun h => absurd h (by decide)) (fun _ => ?_)
       refine AWP.seq ?_
       refine AWP.prune (tm' := [(1, _), (3, _), (4, _), (6, _), (8, _), (9, _), (10, _), (29, _), (11, _), (42, _)]) ⟨rfl, rfl, rfl, rfl, rfl, rfl, rfl, rfl, rfl, rfl, trivial⟩ ?_
       refine AWP.drawn mixed rfl rfl ?_
       refine D (tm' := [(4, _)]) ⟨rfl, trivial⟩ (DStep.yields (Yields.load_ptr_agg (j := 3) kd25 rfl rfl rfl rfl)) rfl ?_
       refine D (tm' := [(10, _)]) ⟨rfl, trivial⟩ (DStep.yields (mv rfl)) rfl ?_
       refine D (tm' := [(55, _), (56, _)]) ⟨rfl, rfl, trivial⟩ (DStep.callro (sbinds_AF kd nm t ks i) rfl rfl) rfl ?_
       refine D (tm' := [(57, _)]) ⟨rfl, trivial⟩ (DStep.yields (mv rfl)) rfl ?_
       refine DOps.split 3 rfl (fun g3 => ?_) (fun g3 => ?_)
       ·
        skip
        rw [g1] at g3; cases g3
       ·
        skip
        refine DOps.off rfl rfl rfl rfl ?_
        refine DOps.off rfl rfl rfl rfl ?_
        refine DOps.off rfl rfl rfl rfl ?_
        refine DOps.off rfl rfl rfl rfl ?_
        refine DOps.off rfl rfl rfl rfl ?_
        refine D (tm' := [(58, _), (63, _)]) ⟨rfl, rfl, trivial⟩ (DStep.yields (Yields.pick_false rfl rfl)) rfl ?_
        refine D (tm' := [(64, _)]) ⟨rfl, trivial⟩ (DStep.yields (mv rfl)) rfl ?_
        refine DOps.off rfl rfl rfl rfl ?_
        refine DOps.off rfl rfl rfl rfl ?_
        refine DOps.off rfl rfl rfl rfl ?_
        refine DOps.off rfl rfl rfl rfl ?_
        refine D (tm' := [(65, _), (69, _)]) ⟨rfl, rfl, trivial⟩ (DStep.yields (Yields.pick_false rfl rfl)) rfl ?_
        refine D (tm' := [(70, _)]) ⟨rfl, trivial⟩ (DStep.yields (ass rfl)) rfl ?_
        refine DOps.nil ?_
        refine AWP.cond rfl (fun h => absurd h (by decide)) (fun _ => ?_)
        refine AWP.region ?_
        refine Y (Yields.load_ptr_agg (j := 0) kd25 rfl rfl rfl rfl) rfl ?_
        refine Y (mv rfl) rfl ?_
        refine Y (Yields.load_ptr_agg (j := 4) kd25 rfl rfl rfl rfl) rfl ?_
        refine Y (mv rfl) rfl ?_
        refine AOps.callH (.inl trivial) (ih (.mk zk zn zt zks) name x l (by omega) hkb (by omega) hx (by omega)) rfl rfl rfl (WkL.refl _) ?_
        rintro _ _ ⟨⟨qk, qn, qt, qks⟩, z1, z2, rfl, rfl⟩
        refine AOps.store (j := 0) kd25 rfl rfl rfl rfl rfl rfl ?_
        refine AOps.nil ?_
        refine ⟨(qk, qn, qt, qks, u), ?_, ?_⟩
        ·
         show Tr.bnd 1000000 (.mk qk qn qt qks) ∧ sizeT (.mk qk qn qt qks) ≤ sizeT (.mk zk zn zt zks) ∧ u.size ≤ 1000000
         exact ⟨z1, by omega, hu⟩
        · exact Leads.keepR (KeepR.cons 0 rfl (KeepR.cons 0 rfl (KeepR.cons 0 rfl (KeepR.cons 0 rfl (KeepR.cons 0 rfl (KeepR.cons 0 rfl KeepR.nil)))))) ⟨rfl, rfl, rfl, rfl, rfl, rfl, rfl, rfl, trivial⟩
     ·
      rintro ⟨wk, wn, wt, wks, u2⟩ hinv
      replace hinv : Tr.bnd 1000000 (.mk wk wn wt wks) ∧ sizeT (.mk wk wn wt wks) ≤ sizeT (.mk zk zn zt zks) ∧ u2.size ≤ 1000000 := hinv
      show AWP _ _ _ _ ⟨[(1, str name), (3, .ro 1 (strs l) [] false), (4, .ptr (some b4) 0 0 4), (6, .ptr (some b6) 0 0 4), (8, .ptr (some b8) 0 0 4), (9, .ptr (some b9) 0 0 4), (10, int i), (11, .ptr (some b11) 0 0 4)], [(some b11, ⟨4, [Tr.av (.mk wk wn wt wks)]⟩), (some b9, ⟨4, [.agg [int kd, int nm, str u2, .loc B 0 ls.length ls.length 4]]⟩), (B, ⟨4, Tr.avs ls⟩), (some b4, ⟨4, [Tr.av (.mk kd nm t ks)]⟩), (some b6, ⟨4, [Tr.av (nameTr x)]⟩), (some b8, ⟨4, [zero4]⟩)]⟩
      refine AWP.region ?_
      obtain ⟨hw1, hw2, hu2⟩ := hinv
      refine Y (Yields.fieldAddr_ptr fo25_3 rfl) rfl ?_
      refine Y (Yields.load_ptr_field (j := 1) kd23 rfl rfl rfl rfl rfl rfl rfl) rfl ?_
      refine Y (Yields.load_ptr_agg (j := 0) kd25 rfl rfl rfl rfl) rfl ?_
      refine AOps.buildSlice sl23 z25 rfl rfl rfl rfl rfl fun Bs => ?_
      refine AOps.appendE (j := 3) sl23 z25 rfl rfl rfl rfl rfl (Tr.avs_length ls) rfl (src_row (j2 := 0) rfl rfl rfl) (show ls.length + 1 = (ls ++ [Tr.mk wk wn wt wks]).length by simp) (avs_snoc ls (.mk wk wn wt wks)) (by simp; omega) (by simp; omega) fun Bn => ?_
      refine Y (Yields.fieldAddr_ptr fo25_3 rfl) rfl ?_
      refine AOps.storeField (j := 2) kd23 rfl rfl rfl rfl rfl rfl rfl ?_
      refine AOps.nil ?_
      refine AWP.region ?_
      refine Y (mv rfl) rfl ?_
      refine Y (bn rfl rfl (BinR.addI (by omega) (by omega)) rfl) rfl ?_
      refine Y (ass rfl) rfl ?_
      refine AOps.nil ?_
      refine ⟨(Bn, ls ++ [Tr.mk wk wn wt wks], i + 1, u2), ?_, ?_, ?_⟩
      ·
       show ks.length - (i + 1) < ks.length - i
       omega
      ·
       show (i + 1) ≤ ks.length ∧ (ls ++ [Tr.mk wk wn wt wks]).length = (i + 1) ∧ Tr.bnds 1000000 (ls ++ [Tr.mk wk wn wt wks]) ∧ sizeTs (ls ++ [Tr.mk wk wn wt wks]) + sizeTs (ks.drop (i + 1)) ≤ sizeTs ks ∧ u2.size ≤ 1000000
       exact ⟨by omega, by simp; omega, bnds_snoc hlb hw1, by rw [sizeTs_snoc]; omega, hu2⟩
      · exact Leads.keepR (KeepR.cons 2 rfl (KeepR.cons 2 rfl (KeepR.cons 2 rfl (KeepR.cons 2 rfl (KeepR.cons 2 rfl KeepR.nil))))) ⟨rfl, rfl, rfl, rfl, rfl, rfl, rfl, trivial⟩
    ·
     replace g := of_decide_eq_false g
     refine AWP.exit ?_
     refine AWP.seq ?_
     refine AWP.region ?_
     refine Y (Yields.load_ptr_agg (j := 0) kd25 rfl rfl rfl rfl) rfl ?_
     refine AOps.leads (Leads.pull 1 rfl) ?_
     refine AOps.leads (Leads.freezeT 1 105 (.inl trivial) rfl (fz_node rfl)) ?_
     refine AOps.store (j := 3) kd25 rfl rfl rfl rfl rfl rfl ?_
     refine AOps.nil ?_
     refine AWP.ret ⟨.inl rfl, ?_⟩
     exact RetH.of (rs := [.cell 8 25]) (vs := [_]) rfl ⟨resOne.cell (j := 3) rfl rfl kd25 rfl rfl rfl, trivial⟩ KeepR.nil (⟨.mk kd nm u ls, ⟨hu, by omega, hlb⟩, by rw [sizeT]; rw [List.drop_eq_nil_of_le (by omega), sizeTs] at hls; omega, rfl, rfl⟩)
theorem plugged_AH (k : Tr) (nm x : ByteArray) (hk : k.bnd 1000000) (hz : sizeT k ≤ 1000000) (hx : x.size ≤ 1000000) : FnH 82 [] [k.av, str nm, (nameTr x).av] (noLarger (sizeT k)) := by
  have hxb : Tr.bnd 1000000 (nameTr x) := ⟨hx, by simp, trivial⟩
  have hxz : sizeT (nameTr x) = 1 := by rw [nameTr, sizeT, sizeTs]; omega
  have hpos := sizeT_pos k
  have hn1 := namesT_length k
  have hn2 := namesT_length (nameTr x)
  have hj1 := joinL_length (namesT (nameTr x)) (namesT k)
  have hj2 := joinL_length [nm] (joinL (namesT k) (namesT (nameTr x)))
  simp only [List.length_singleton] at hj2
  have hnF := snames_AF (nameTr x) hxb (by omega)
  obtain ⟨kd, kn, t, ks⟩ := k
  refine AH.intro Try.func82 nm82 rfl rfl rfl fun w0 ok0 own0 => ?_
  refine AWP.seq ?_
  refine AWP.region ?_
  refine AOps.box rfl rfl rfl rfl fun b3 => ?_
  refine AOps.box rfl rfl rfl rfl fun b5 => ?_
  refine AOps.alloc rfl z25 rfl rfl fun b6 => ?_
  refine AOps.nil ?_
  refine AWP.seq ?_
  refine AWP.prune (tm' := [(0, _), (1, _), (2, _), (3, _), (5, _), (6, _)]) ⟨rfl, rfl, rfl, rfl, rfl, rfl, trivial⟩ ?_
  refine AWP.drawnM [] [.pure 0, .pure 1, .pure 2, .pure 3, .pure 5, .pure 8, .pure 9, .spine 4 [] [3], .pure 6, .spine 7 [] [3, 4, 5, 6], .spine 10 [] [3, 4, 5, 6, 7, 8, 9], .spine 11 [] [0, 1, 2, 3, 4, 5, 6, 7, 8, 9, 10], .spine 12 [] [0, 1, 2, 3, 4, 5, 6, 7, 8, 9, 10, 11]] mixed rfl rfl rfl rfl rfl ?_
  refine DM.pure (GX (tm' := [(3, _)]) rfl ⟨rfl, trivial⟩ rfl (DStep.yields (Yields.load_ptr_agg (j := 2) kd25 rfl rfl rfl rfl)) rfl) ?_
  refine DM.pure (GX (tm' := [(1, _)]) rfl ⟨rfl, trivial⟩ rfl (DStep.yields (mv rfl)) rfl) ?_
  refine DM.pure (GX (tm' := [(5, _)]) rfl ⟨rfl, trivial⟩ rfl (DStep.yields (Yields.load_ptr_agg (j := 1) kd25 rfl rfl rfl rfl)) rfl) ?_
  refine DM.pure (GX (tm' := [(3, _)]) rfl ⟨rfl, trivial⟩ rfl (DStep.yields (Yields.load_ptr_agg (j := 2) kd25 rfl rfl rfl rfl)) rfl) ?_
  refine DM.pure (GX (tm' := [(5, _)]) rfl ⟨rfl, trivial⟩ rfl (DStep.yields (Yields.load_ptr_agg (j := 1) kd25 rfl rfl rfl rfl)) rfl) ?_
  refine DM.pure (GX (tm' := [(1, _)]) rfl ⟨rfl, trivial⟩ rfl (DStep.yields (mv rfl)) rfl) ?_
  refine DM.pure (GX (tm' := [(15, _)]) rfl ⟨rfl, trivial⟩ rfl (DStep.buildRo sl35 z9 rfl rfl rfl rfl) rfl) ?_
  refine DM.sp rfl rfl ?_
  refine DOpen.nil fun _ _ _ => ?_
  refine AOps.subT (tm' := [(10, _)]) ⟨rfl, trivial⟩ ?_
  refine AOps.callH (.inl trivial) (snames_AH (.mk kd kn t ks) hk (by omega)) rfl rfl rfl (WkL.refl _) ?_
  rintro _ _ ⟨Ba, rfl, rfl⟩
  refine AOps.nil ?_
  refine SpK.mk rfl rfl ?_ ?_
  ·
   skip
   refine Stab.skip rfl ?_
   refine Stab.keep (GX (tm' := [(15, _)]) rfl ⟨rfl, trivial⟩ rfl (DStep.buildRo sl35 z9 rfl rfl rfl rfl) rfl) ?_
   refine Stab.keep (GX (tm' := [(1, _)]) rfl ⟨rfl, trivial⟩ rfl (DStep.yields (mv rfl)) rfl) ?_
   refine Stab.keep (GX (tm' := [(5, _)]) rfl ⟨rfl, trivial⟩ rfl (DStep.yields (Yields.load_ptr_agg (j := 2) kd25 rfl rfl rfl rfl)) rfl) ?_
   refine Stab.skip rfl ?_
   refine Stab.keep (GX (tm' := [(5, _)]) rfl ⟨rfl, trivial⟩ rfl (DStep.yields (Yields.load_ptr_agg (j := 2) kd25 rfl rfl rfl rfl)) rfl) ?_
   refine Stab.keep (GX (tm' := [(1, _)]) rfl ⟨rfl, trivial⟩ rfl (DStep.yields (mv rfl)) rfl) ?_
   refine Stab.keep (GX (tm' := [(3, _)]) rfl ⟨rfl, trivial⟩ rfl (DStep.yields (Yields.load_ptr_agg (j := 3) kd25 rfl rfl rfl rfl)) rfl) ?_
   exact trivial
  refine DM.pure (GX (tm' := [(12, _)]) rfl ⟨rfl, trivial⟩ rfl (DStep.callro (hnF) rfl rfl) rfl) ?_
  refine DM.sp rfl rfl ?_
  refine DOpen.nil fun _ _ _ => ?_
  refine AOps.subT (tm' := [(11, _), (13, _)]) ⟨rfl, rfl, trivial⟩ ?_
  refine AOps.callH (.inl trivial) (joined_AH (namesT (.mk kd kn t ks)) (namesT (nameTr x)) Ba (by omega)) rfl rfl rfl (WkL.refl _) ?_
  rintro _ _ ⟨Bc, rfl, rfl⟩
  refine AOps.nil ?_
  refine SpK.mk rfl rfl ?_ ?_
  ·
   skip
   refine Stab.skip rfl ?_
   refine Stab.skip rfl ?_
   refine Stab.skip rfl ?_
   refine Stab.keep (GX (tm' := [(15, _)]) rfl ⟨rfl, trivial⟩ rfl (DStep.buildRo sl35 z9 rfl rfl rfl rfl) rfl) ?_
   refine Stab.keep (GX (tm' := [(1, _)]) rfl ⟨rfl, trivial⟩ rfl (DStep.yields (mv rfl)) rfl) ?_
   refine Stab.skip rfl ?_
   refine Stab.skip rfl ?_
   refine Stab.keep (GX (tm' := [(5, _)]) rfl ⟨rfl, trivial⟩ rfl (DStep.yields (Yields.load_ptr_agg (j := 2) kd25 rfl rfl rfl rfl)) rfl) ?_
   refine Stab.keep (GX (tm' := [(1, _)]) rfl ⟨rfl, trivial⟩ rfl (DStep.yields (mv rfl)) rfl) ?_
   refine Stab.keep (GX (tm' := [(3, _)]) rfl ⟨rfl, trivial⟩ rfl (DStep.yields (Yields.load_ptr_agg (j := 3) kd25 rfl rfl rfl rfl)) rfl) ?_
   exact trivial
  refine DM.sp rfl rfl ?_
  refine DOpen.nil fun _ _ _ => ?_
  refine AOps.subT (tm' := [(14, _), (16, _)]) ⟨rfl, rfl, trivial⟩ ?_
  refine AOps.callH (.inl trivial) (joined_AH (joinL (namesT (.mk kd kn t ks)) (namesT (nameTr x))) [nm] Bc (by simp; omega)) rfl rfl rfl (WkL.refl _) ?_
  rintro _ _ ⟨Be, rfl, rfl⟩
  refine AOps.nil ?_
  refine SpK.mk rfl rfl ?_ ?_
  ·
   skip
   refine Stab.skip rfl ?_
   refine Stab.skip rfl ?_
   refine Stab.skip rfl ?_
   refine Stab.skip rfl ?_
   refine Stab.skip rfl ?_
   refine Stab.skip rfl ?_
   refine Stab.skip rfl ?_
   refine Stab.skip rfl ?_
   refine Stab.keep (GX (tm' := [(5, _)]) rfl ⟨rfl, trivial⟩ rfl (DStep.yields (Yields.load_ptr_agg (j := 2) kd25 rfl rfl rfl rfl)) rfl) ?_
   refine Stab.keep (GX (tm' := [(1, _)]) rfl ⟨rfl, trivial⟩ rfl (DStep.yields (mv rfl)) rfl) ?_
   refine Stab.keep (GX (tm' := [(3, _)]) rfl ⟨rfl, trivial⟩ rfl (DStep.yields (Yields.load_ptr_agg (j := 3) kd25 rfl rfl rfl rfl)) rfl) ?_
   exact trivial
  refine DM.sp rfl rfl ?_
  refine DOpen.nil fun _ _ _ => ?_
  refine AOps.subT (tm' := [(7, _), (8, _), (9, _), (17, _)]) ⟨rfl, rfl, rfl, rfl, trivial⟩ ?_
  refine AOps.leads (Leads.freezeT 1 17 (.inl trivial) rfl (ownS.fz ⟨_, rfl, rfl⟩)) ?_
  refine AOps.callH (.inl trivial) (plug_AH (sizeT (.mk kd kn t ks)).toNat (.mk kd kn t ks) nm x _ (by omega) hk (by omega) hx (by omega)) rfl rfl rfl (WkL.refl _) ?_
  rintro _ _ ⟨⟨yk, yn, yt, yks⟩, y1, y2, rfl, rfl⟩
  refine AOps.nil ?_
  refine SpK.mk rfl rfl (Stab.all rfl) ?_
  refine DM.sp rfl rfl ?_
  refine DOpen.nil fun _ _ _ => ?_
  refine AOps.subT (tm' := [(6, _), (18, _)]) ⟨rfl, rfl, trivial⟩ ?_
  refine AOps.store (j := 0) kd25 rfl rfl rfl rfl rfl rfl ?_
  refine AOps.nil ?_
  refine SpK.mk0 (Stab.all rfl) ?_
  refine DM.nil ?_
  refine AWP.ret ⟨.inl rfl, ?_⟩
  exact RetH.of (rs := [.cell 6 25]) (vs := [_]) rfl ⟨resOne.cell (j := 0) rfl rfl kd25 rfl rfl rfl, trivial⟩ KeepR.nil (⟨.mk yk yn yt yks, y1, y2, rfl, rfl⟩)
theorem bor_node {hp : Hp} {B : Option Nat} {j : Nat} {k n : Int} {t : ByteArray} {l : List Tr} {len : Nat} (hj : hp[j]? = some (B, ⟨4, Tr.avs l⟩)) (hl : len = l.length) : Bor hp (.agg [int k, int n, str t, .loc B 0 len len 4]) (Tr.av (.mk k n t l)) := by
  subst hl
  exact Bor.agg (us := [int k, int n, str t, .loc B 0 l.length l.length 4]) (ps := [int k, int n, str t, .ro 4 (Tr.avs l) [] false]) ⟨Bor.refl rfl, Bor.refl rfl, Bor.refl rfl, Bor.loc hj (by simp [Tr.avs_length]) (by rw [List.take_of_length_le (by simp [Tr.avs_length])]; exact viewL_refl (plain_avs l)), trivial⟩
theorem avs_set : ∀ (l : List Tr) (i : Nat) (k : Tr), (Tr.avs l).set i k.av = Tr.avs (l.set i k)
  | [], i, k => rfl
  | x :: l, 0, k => rfl
  | x :: l, i + 1, k => by simp only [Tr.avs, List.set_cons_succ, avs_set l i k]
theorem sizeTs_set1 : ∀ (l : List Tr) (i : Nat) (k z : Tr), l[i]? = some z → sizeT k ≤ sizeT z → sizeTs (l.set i k) ≤ sizeTs l
  | [], i, k, z, h, h2 => by simp at h
  | x :: l, 0, k, z, h, h2 => by simp at h; subst h; rw [List.set_cons_zero, sizeTs, sizeTs]; omega
  | x :: l, i + 1, k, z, h, h2 => by
    have := sizeTs_set1 l i k z (by simpa using h) h2
    rw [List.set_cons_succ, sizeTs, sizeTs]; omega
def srcL (n : Int) (b : Nat) (code : List UInt8) (p : Nat) : AV → Hp → Prop := fun r hp' => ∃ (v : Tr) (q : Nat), v.bnd 1000000 ∧ sizeT v ≤ n ∧ p ≤ q ∧ (q : Int) ≤ p + 4 * n ∧ r = v.av ∧ hp' = [src b code q]
theorem valid_bind {kd nm : Int} {t : ByteArray} {ks : List Tr} {d : Int} (h : validS (.mk kd nm t ks) d = true) (hb : bindsB kd = true) : ks.length = 2 := by
  have := (validS_inv h).2.1
  unfold bindsB at hb
  simp only [Bool.or_eq_true, decide_eq_true_eq] at hb
  rcases hb with rfl | rfl <;> (simp [inR, lowV, highV] at this; omega)
theorem renamed_AH (b : Nat) (code : List UInt8) (hc : code.length ≤ 1048576) (k : Tr) : ∀ (d : Int) (p : Nat), k.bnd 1000000 → sizeT k ≤ 1000000 → validS k d = true → (p : Int) + 4 * sizeT k ≤ 100000000 → FnH 60 [src b code p] [k.av, .ptr (some b) 0 0 2] (srcL (sizeT k) b code p) := by
  induction k using Tr.ind
  rename_i kd nm t ks ih
  intro d p hk hz hv hp
  simp only [Tr.bnd] at hk
  obtain ⟨hk1, hk2, hk3⟩ := hk
  have hlen := Tr.avs_length ks
  have hvv := validS_inv hv
  have hz1 : sizeT (.mk kd nm t ks) = 1 + sizeTs ks := by rw [sizeT]
  have hzs := sizeTs_pos ks
  refine AH.intro Try.func60 nm60 rfl rfl rfl fun w0 ok0 own0 => ?_
  refine AWP.seq ?_
  refine AWP.region ?_
  refine AOps.box rfl rfl rfl rfl fun b2 => ?_
  refine AOps.alloc rfl z25 rfl rfl fun b4 => ?_
  refine AOps.nil ?_
  refine AWP.seq ?_
  refine AWP.region ?_
  refine Y (Yields.load_ptr_agg (j := 1) kd25 rfl rfl rfl rfl) rfl ?_
  refine AOps.alloc rfl z25 rfl rfl fun b5 => ?_
  refine AOps.store (j := 0) kd25 rfl rfl rfl rfl rfl rfl ?_
  refine AOps.nil ?_
  refine AWP.seq ?_
  refine AWP.region ?_
  refine Y (Yields.fieldAddr_ptr fo25_3 rfl) rfl ?_
  refine AOps.storeField (j := 0) kd23 rfl rfl rfl rfl rfl rfl rfl ?_
  refine AOps.nil ?_
  refine AWP.seq ?_
  refine AWP.seq ?_
  refine AWP.region ?_
  refine Y (ass rfl) rfl ?_
  refine AOps.nil ?_
  refine AWP.leads (Leads.rowWk 0 0 rfl rfl (Wk.agg (ps := [_, _, _, .loc none 0 0 0 4]) ⟨Wk.refl _, Wk.refl _, Wk.refl _, Wk.nilLoc (n := 4), trivial⟩)) ?_
  refine AWP.leads (Leads.row0 4) ?_
  refine AWP.block ?_
  refine AWP.loopV (α := Option Nat × List Tr × Nat × Nat) (fun pp : Option Nat × List Tr × Nat × Nat => match pp with | (B, ls, i, q) => ⟨[(1, .ptr (some b) 0 0 2), (2, .ptr (some b2) 0 0 4), (4, .ptr (some b4) 0 0 4), (5, .ptr (some b5) 0 0 4), (6, int i)], [src b code q, (some b5, ⟨4, [.agg [int kd, int nm, str t, .loc B 0 ls.length ls.length 4]]⟩), (B, ⟨4, Tr.avs ls⟩), (some b2, ⟨4, [Tr.av (.mk kd nm t ks)]⟩), (some b4, ⟨4, [zero4]⟩)]⟩) (fun pp : Option Nat × List Tr × Nat × Nat => match pp with | (B, ls, i, q) => i ≤ ks.length ∧ ls.length = i ∧ Tr.bnds 1000000 ls ∧ sizeTs ls + sizeTs (ks.drop i) ≤ sizeTs ks ∧ p ≤ q ∧ (q : Int) + 4 * sizeTs (ks.drop i) ≤ p + 4 * sizeTs ks) (fun pp : Option Nat × List Tr × Nat × Nat => match pp with | (B, ls, i, q) => ks.length - i) ((none, [], 0, p)) ?_ ?_ ?_
  · exact Leads.keepR (KeepR.cons 4 rfl (KeepR.cons 1 rfl (KeepR.cons 0 rfl (KeepR.cons 1 rfl (KeepR.cons 0 rfl KeepR.nil))))) ⟨rfl, rfl, rfl, rfl, rfl, trivial⟩
  ·
   show 0 ≤ ks.length ∧ ([]).length = 0 ∧ Tr.bnds 1000000 ([]) ∧ sizeTs ([]) + sizeTs (ks.drop 0) ≤ sizeTs ks ∧ p ≤ p ∧ (p : Int) + 4 * sizeTs (ks.drop 0) ≤ p + 4 * sizeTs ks
   exact ⟨Nat.zero_le _, rfl, trivial, by rw [List.drop_zero, sizeTs]; omega, by omega, by rw [List.drop_zero]; omega⟩
  ·
   rintro ⟨B, ls, i, q⟩ hinv
   replace hinv : i ≤ ks.length ∧ ls.length = i ∧ Tr.bnds 1000000 ls ∧ sizeTs ls + sizeTs (ks.drop i) ≤ sizeTs ks ∧ p ≤ q ∧ (q : Int) + 4 * sizeTs (ks.drop i) ≤ p + 4 * sizeTs ks := hinv
   show AWP _ _ _ _ ⟨[(1, .ptr (some b) 0 0 2), (2, .ptr (some b2) 0 0 4), (4, .ptr (some b4) 0 0 4), (5, .ptr (some b5) 0 0 4), (6, int i)], [src b code q, (some b5, ⟨4, [.agg [int kd, int nm, str t, .loc B 0 ls.length ls.length 4]]⟩), (B, ⟨4, Tr.avs ls⟩), (some b2, ⟨4, [Tr.av (.mk kd nm t ks)]⟩), (some b4, ⟨4, [zero4]⟩)]⟩
   refine AWP.seq ?_
   refine AWP.seq ?_
   refine AWP.region ?_
   obtain ⟨hi, hll, hlb, hls, hq1, hq2⟩ := hinv
   refine Y (mv rfl) rfl ?_
   refine Y (Yields.fieldAddr_ptr fo25_3 rfl) rfl ?_
   refine Y (Yields.load_ptr_field (j := 3) kd23 rfl rfl rfl rfl rfl rfl rfl) rfl ?_
   refine Y (Yields.len_ro sl23 rfl) rfl ?_
   refine Y (bn rfl rfl BinR.lss rfl) rfl ?_
   refine AOps.nil ?_
   refine AWP.condT rfl (fun g => ?_) (fun g => ?_)
   ·
    replace g := of_decide_eq_true g
    obtain ⟨⟨zk, zn, zt, zks⟩, hkk, hd⟩ := drop_at (l := ks) (i := i) (by omega)
    have hkb := Tr.bnds_get hk3 hkk
    rw [sizeTs_at hkk] at hls hq2
    have hdp := sizeTs_pos (ks.drop (i + 1))
    have hlp := sizeTs_pos ls
    have hkp := sizeT_pos (.mk zk zn zt zks)
    refine AWP.skip ?_
    refine AWP.seq ?_
    refine AWP.block ?_
    refine AWP.prune (tm' := [(1, _), (2, _), (4, _), (5, _), (6, _), (14, _)]) ⟨rfl, rfl, rfl, rfl, rfl, rfl, trivial⟩ ?_
    refine AWP.drawnM [] [.pure 0, .pure 1, .pure 2, .pure 3, .pure 4, .pure 5, .pure 6, .pure 7, .spine 8 [] [2, 3, 4, 5, 6, 7], .pure 9, .spine 10 [9] [0, 1, 2, 3, 4, 5, 6, 7, 8, 9], .pure 11, .spine 12 [] [0, 1, 2, 3, 4, 5, 6, 7, 8, 9, 10, 11]] mixed rfl rfl rfl rfl rfl ?_
    refine DM.pure (GX (tm' := [(5, _)]) rfl ⟨rfl, trivial⟩ rfl (DStep.yields (Yields.fieldAddr_ptr fo25_3 rfl)) rfl) ?_
    refine DM.pure (GX (tm' := [(17, _)]) rfl ⟨rfl, trivial⟩ rfl (DStep.yields (Yields.load_ptr_field (j := 1) kd23 rfl rfl rfl rfl rfl rfl rfl)) rfl) ?_
    refine DM.pure (GX (tm' := [(2, _)]) rfl ⟨rfl, trivial⟩ rfl (DStep.yields (Yields.fieldAddr_ptr fo25_3 rfl)) rfl) ?_
    refine DM.pure (GX (tm' := [(19, _)]) rfl ⟨rfl, trivial⟩ rfl (DStep.yields (Yields.load_ptr_field (j := 3) kd23 rfl rfl rfl rfl rfl rfl rfl)) rfl) ?_
    refine DM.pure (GX (tm' := [(6, _)]) rfl ⟨rfl, trivial⟩ rfl (DStep.yields (mv rfl)) rfl) ?_
    refine DM.pure (GX (tm' := [(20, _), (21, _)]) rfl ⟨rfl, rfl, trivial⟩ rfl (DStep.yields (Yields.idx_roN sl23 rfl rfl rfl rfl (by omega))) rfl) ?_
    refine DM.pure (GX (tm' := [(22, _)]) rfl ⟨rfl, trivial⟩ rfl (DStep.yields (Yields.load_rop_aggV kd25 rfl (Tr.avs_at hkk) rfl)) rfl) ?_
    refine DM.pure (GX (tm' := [(1, _)]) rfl ⟨rfl, trivial⟩ rfl (DStep.yields (mv rfl)) rfl) ?_
    refine DM.sp rfl rfl ?_
    refine DOpen.nil fun _ _ _ => ?_
    refine AOps.subT (tm' := [(23, _), (24, _)]) ⟨rfl, rfl, trivial⟩ ?_
    refine AOps.callH (.inl trivial) (ih (.mk zk zn zt zks) (List.mem_of_getElem? hkk) (d - 1) q hkb (by omega) (validSs_get hvv.2.2 hkk) (by omega)) rfl rfl rfl (WkL.refl _) ?_
    rintro _ _ ⟨⟨wk, wn, wt, wks⟩, q2, w1, w2, w3, w4, rfl, rfl⟩
    refine AOps.nil ?_
    refine SpK.mk rfl rfl ?_ ?_
    ·
     skip
     refine Stab.skip rfl ?_
     refine Stab.skip rfl ?_
     refine Stab.skip rfl ?_
     refine Stab.skip rfl ?_
     refine Stab.skip rfl ?_
     refine Stab.skip rfl ?_
     refine Stab.skip rfl ?_
     refine Stab.keep (GX (tm' := [(17, _)]) rfl ⟨rfl, trivial⟩ rfl (DStep.yields (Yields.load_ptr_field (j := 1) kd23 rfl rfl rfl rfl rfl rfl rfl)) rfl) ?_
     refine Stab.keep (GX (tm' := [(5, _)]) rfl ⟨rfl, trivial⟩ rfl (DStep.yields (Yields.fieldAddr_ptr fo25_3 rfl)) rfl) ?_
     exact trivial
    refine DM.pure (GXs (tm' := [(25, _)]) rfl ⟨rfl, trivial⟩ rfl rfl (DStepU.buildSlice sl23 z25 rfl rfl rfl rfl) rfl) ?_
    refine DM.sp rfl rfl ?_
    refine DOpen.own rfl fun Bs => ?_
    refine DOpen.nil fun _ _ _ => ?_
    refine AOps.subT (tm' := [(18, _), (26, _)]) ⟨rfl, rfl, trivial⟩ ?_
    refine AOps.appendE (j := 3) sl23 z25 rfl rfl rfl rfl rfl (Tr.avs_length ls) rfl (src_row (j2 := 0) rfl rfl rfl) (show ls.length + 1 = (ls ++ [Tr.mk wk wn wt wks]).length by simp) (avs_snoc ls (.mk wk wn wt wks)) (by simp; omega) (by simp; omega) fun Bn => ?_
    refine AOps.nil ?_
    refine SpK.mk rfl rfl (Stab.all rfl) ?_
    refine DM.pure (GX (tm' := [(5, _)]) rfl ⟨rfl, trivial⟩ rfl (DStep.yields (Yields.fieldAddr_ptr fo25_3 rfl)) rfl) ?_
    refine DM.sp rfl rfl ?_
    refine DOpen.nil fun _ _ _ => ?_
    refine AOps.subT (tm' := [(28, _), (27, _)]) ⟨rfl, rfl, trivial⟩ ?_
    refine AOps.storeField (j := 2) kd23 rfl rfl rfl rfl rfl rfl rfl ?_
    refine AOps.nil ?_
    refine SpK.mk0 (Stab.all rfl) ?_
    refine DM.nil ?_
    refine AWP.region ?_
    refine Y (mv rfl) rfl ?_
    refine Y (bn rfl rfl (BinR.addI (by omega) (by omega)) rfl) rfl ?_
    refine Y (ass rfl) rfl ?_
    refine AOps.nil ?_
    refine ⟨(Bn, ls ++ [Tr.mk wk wn wt wks], i + 1, q2), ?_, ?_, ?_⟩
    ·
     show ks.length - (i + 1) < ks.length - i
     omega
    ·
     show (i + 1) ≤ ks.length ∧ (ls ++ [Tr.mk wk wn wt wks]).length = (i + 1) ∧ Tr.bnds 1000000 (ls ++ [Tr.mk wk wn wt wks]) ∧ sizeTs (ls ++ [Tr.mk wk wn wt wks]) + sizeTs (ks.drop (i + 1)) ≤ sizeTs ks ∧ p ≤ q2 ∧ (q2 : Int) + 4 * sizeTs (ks.drop (i + 1)) ≤ p + 4 * sizeTs ks
     exact ⟨by omega, by simp; omega, bnds_snoc hlb w1, by rw [sizeTs_snoc]; omega, by omega, by omega⟩
    · exact Leads.keepR (KeepR.cons 1 rfl (KeepR.cons 1 rfl (KeepR.cons 1 rfl (KeepR.cons 1 rfl (KeepR.cons 1 rfl KeepR.nil))))) ⟨rfl, rfl, rfl, rfl, rfl, trivial⟩
   ·
    replace g := of_decide_eq_false g
    refine AWP.exit ?_
    refine AWP.midE (α := Nat × List Tr × ByteArray) (fun pp : Nat × List Tr × ByteArray => match pp with | (q2, l2, u) => ⟨[(4, .ptr (some b4) 0 0 4), (5, .ptr (some b5) 0 0 4)], [src b code q2, (some b5, ⟨4, [.agg [int kd, int nm, str u, .loc B 0 ls.length ls.length 4]]⟩), (B, ⟨4, Tr.avs l2⟩), (some b4, ⟨4, [zero4]⟩)]⟩) (fun pp : Nat × List Tr × ByteArray => match pp with | (q2, l2, u) => l2.length = ls.length ∧ Tr.bnds 1000000 l2 ∧ sizeTs l2 ≤ sizeTs ks ∧ p ≤ q2 ∧ (q2 : Int) ≤ p + 4 * (1 + sizeTs ks) ∧ u.size ≤ 1000000) ?_ ?_
    ·
     skip
     refine AWP.seq ?_
     refine AWP.region ?_
     have hie : i = ks.length := by omega
     have hd0 : sizeTs (ks.drop i) = 0 := by rw [List.drop_eq_nil_of_le (by omega), sizeTs]
     refine Y (Yields.load_ptr_agg (j := 1) kd25 rfl rfl rfl rfl) rfl ?_
     refine AOps.call (sbinds_AF kd nm t ls 1) rfl rfl ⟨bor_node (j := 2) rfl rfl, Bor.refl rfl, trivial⟩ rfl Free.val ?_
     refine Y (mv rfl) rfl ?_
     refine AOps.split 31 rfl (fun g1 => ?_) (fun g1 => ?_)
     ·
      skip
      refine AOps.on rfl rfl ?_
      refine Y (mv rfl) rfl ?_
      refine AOps.on rfl rfl ?_
      refine AOps.callH (.inl trivial) (pick_AH b code q 3 hc (by omega) (by omega) (by omega)) rfl rfl rfl (WkL.refl _) ?_
      rintro _ _ ⟨m0, q0, k1, k2, k3, k4, rfl, rfl⟩
      have hl2 : ls.length = 2 := by have := valid_bind hv (by simpa using g1); omega
      refine AOps.on rfl rfl ?_
      refine Y (bn rfl rfl BinR.gtr rfl) rfl ?_
      refine Y (Yields.pick_true rfl rfl) rfl ?_
      refine AOps.nil ?_
      refine AWP.condT rfl (fun g2 => ?_) (fun g2 => ?_)
      ·
       replace g2 := of_decide_eq_true g2
       refine AWP.seq ?_
       obtain ⟨⟨zk, zn, zt, zks⟩, hx1, _⟩ := drop_at (l := ls) (i := 1) (by omega)
       have hkb := Tr.bnds_get hlb hx1
       have hzz := sizeTs_at hx1
       have hzd := drop_le ls 1
       have hzp := sizeTs_pos (ls.drop (1 + 1))
       have hkp := sizeT_pos (.mk zk zn zt zks)
       refine AWP.someRow 2 rfl (by intro e; have e := congrArg List.length e; simp [Tr.avs_length] at e; rw [e] at hl2; simp at hl2) fun Bz hsr => ?_
       subst hsr
       refine AWP.prune (tm' := [(1, _), (2, _), (4, _), (5, _), (6, _), (14, _), (35, _)]) ⟨rfl, rfl, rfl, rfl, rfl, rfl, rfl, trivial⟩ ?_
       refine AWP.drawnM [] [.pure 0, .pure 2, .pure 3, .pure 4, .pure 5, .pure 7, .pure 8, .pure 9, .spine 1 [] [0], .spine 6 [] [0, 1, 2, 3, 4, 5], .spine 10 [] [0, 1, 2, 3, 4, 5, 6, 7, 8, 9], .spine 11 [] [0, 1, 2, 3, 4, 5, 6, 7, 8, 9, 10], .pure 12] mixed rfl rfl rfl rfl rfl ?_
       refine DM.pure (GX (tm' := [(1, _)]) rfl ⟨rfl, trivial⟩ rfl (DStep.yields (mv rfl)) rfl) ?_
       refine DM.pure (GX (tm' := [(5, _)]) rfl ⟨rfl, trivial⟩ rfl (DStep.yields (Yields.fieldAddr_ptr fo25_3 rfl)) rfl) ?_
       refine DM.pure (GX (tm' := [(38, _)]) rfl ⟨rfl, trivial⟩ rfl (DStep.yields (Yields.load_ptr_field (j := 1) kd23 rfl rfl rfl rfl rfl rfl rfl)) rfl) ?_
       refine DM.pure (GX (tm' := [(39, _)]) rfl ⟨rfl, trivial⟩ rfl (DStep.yields (Yields.idx_locN sl23 rfl rfl (j := 1) rfl (by omega))) rfl) ?_
       refine DM.pure (GX (tm' := [(40, _)]) rfl ⟨rfl, trivial⟩ rfl (DStep.yields (Yields.load_ptr_aggV (j := 2) kd25 rfl rfl (show (Tr.avs ls)[0 + 1]? = some _ from Tr.avs_at hx1) rfl rfl)) rfl) ?_
       refine DM.pure (GX (tm' := [(5, _)]) rfl ⟨rfl, trivial⟩ rfl (DStep.yields (Yields.fieldAddr_ptr fo25_2 rfl)) rfl) ?_
       refine DM.pure (GX (tm' := [(43, _)]) rfl ⟨rfl, trivial⟩ rfl (DStep.yields (Yields.load_ptr_field (j := 1) kd9 rfl rfl rfl rfl rfl rfl rfl)) rfl) ?_
       refine DM.pure (GX (tm' := [(44, _)]) rfl ⟨rfl, trivial⟩ rfl (DStep.buildRo sl35 z9 rfl rfl rfl rfl) rfl) ?_
       refine DM.sp rfl rfl ?_
       refine DOpen.nil fun _ _ _ => ?_
       refine AOps.subT (tm' := [(36, _)]) ⟨rfl, trivial⟩ ?_
       refine AOps.callH (.inl trivial) (local_AH b code q0 hc (by omega)) rfl rfl rfl (WkL.refl _) ?_
       rintro _ _ ⟨sl, q3, j1, j2, j3, rfl, rfl⟩
       refine AOps.nil ?_
       refine SpK.mk rfl rfl ?_ ?_
       ·
        skip
        refine Stab.skip rfl ?_
        refine Stab.keep (GX (tm' := [(44, _)]) rfl ⟨rfl, trivial⟩ rfl (DStep.buildRo sl35 z9 rfl rfl rfl rfl) rfl) ?_
        refine Stab.keep (GX (tm' := [(43, _)]) rfl ⟨rfl, trivial⟩ rfl (DStep.yields (Yields.load_ptr_field (j := 1) kd9 rfl rfl rfl rfl rfl rfl rfl)) rfl) ?_
        refine Stab.keep (GX (tm' := [(5, _)]) rfl ⟨rfl, trivial⟩ rfl (DStep.yields (Yields.fieldAddr_ptr fo25_2 rfl)) rfl) ?_
        refine Stab.keep (GX (tm' := [(40, _)]) rfl ⟨rfl, trivial⟩ rfl (DStep.yields (Yields.load_ptr_aggV (j := 2) kd25 rfl rfl (show (Tr.avs ls)[0 + 1]? = some _ from Tr.avs_at hx1) rfl rfl)) rfl) ?_
        refine Stab.keep (GX (tm' := [(39, _)]) rfl ⟨rfl, trivial⟩ rfl (DStep.yields (Yields.idx_locN sl23 rfl rfl (j := 1) rfl (by omega))) rfl) ?_
        refine Stab.keep (GX (tm' := [(38, _)]) rfl ⟨rfl, trivial⟩ rfl (DStep.yields (Yields.load_ptr_field (j := 1) kd23 rfl rfl rfl rfl rfl rfl rfl)) rfl) ?_
        refine Stab.keep (GX (tm' := [(5, _)]) rfl ⟨rfl, trivial⟩ rfl (DStep.yields (Yields.fieldAddr_ptr fo25_3 rfl)) rfl) ?_
        refine Stab.skip rfl ?_
        exact trivial
       refine DM.sp rfl rfl ?_
       refine DOpen.nil fun _ _ _ => ?_
       refine AOps.subT (tm' := [(41, _)]) ⟨rfl, trivial⟩ ?_
       refine AOps.callH (.inl trivial) (snames_AH (.mk zk zn zt zks) hkb (by omega)) rfl rfl rfl (WkL.refl _) ?_
       rintro _ _ ⟨Ba, rfl, rfl⟩
       refine AOps.nil ?_
       refine SpK.mk rfl rfl ?_ ?_
       ·
        skip
        refine Stab.skip rfl ?_
        refine Stab.skip rfl ?_
        refine Stab.keep (GX (tm' := [(44, _)]) rfl ⟨rfl, trivial⟩ rfl (DStep.buildRo sl35 z9 rfl rfl rfl rfl) rfl) ?_
        refine Stab.keep (GX (tm' := [(43, _)]) rfl ⟨rfl, trivial⟩ rfl (DStep.yields (Yields.load_ptr_field (j := 2) kd9 rfl rfl rfl rfl rfl rfl rfl)) rfl) ?_
        refine Stab.keep (GX (tm' := [(5, _)]) rfl ⟨rfl, trivial⟩ rfl (DStep.yields (Yields.fieldAddr_ptr fo25_2 rfl)) rfl) ?_
        refine Stab.skip rfl ?_
        refine Stab.skip rfl ?_
        refine Stab.skip rfl ?_
        refine Stab.skip rfl ?_
        refine Stab.skip rfl ?_
        exact trivial
       refine DM.sp rfl rfl ?_
       refine DOpen.nil fun _ _ _ => ?_
       refine AOps.subT (tm' := [(42, _), (45, _)]) ⟨rfl, rfl, trivial⟩ ?_
       refine AOps.callH (.inl trivial) (joined_AH (namesT (.mk zk zn zt zks)) [t] Ba (by have := namesT_length (.mk zk zn zt zks); simp; omega)) rfl rfl rfl (WkL.refl _) ?_
       rintro _ _ ⟨Bc, rfl, rfl⟩
       refine AOps.nil ?_
       refine SpK.mk rfl rfl (Stab.all rfl) ?_
       refine DM.sp rfl rfl ?_
       refine DOpen.nil fun _ _ _ => ?_
       refine AOps.subT (tm' := [(37, _), (46, _)]) ⟨rfl, rfl, trivial⟩ ?_
       refine AOps.leads (Leads.freezeT 1 46 (.inl trivial) rfl (ownS.fz ⟨_, rfl, rfl⟩)) ?_
       refine AOps.callro (fresh_AF sl (joinL (namesT (.mk zk zn zt zks)) [t]) (by omega) (by have := joinL_length [t] (namesT (.mk zk zn zt zks)); have := namesT_length (.mk zk zn zt zks); simp at *; omega)) rfl rfl rfl ?_
       refine AOps.nil ?_
       refine SpK.mk rfl rfl (Stab.all rfl) ?_
       have hfs : (freshB sl (joinL (namesT (.mk zk zn zt zks)) [t])).size ≤ 24 := by have := freshB_size sl (joinL (namesT (.mk zk zn zt zks)) [t]); omega
       generalize freshB sl (joinL (namesT (.mk zk zn zt zks)) [t]) = fr at hfs
       refine DM.pure (GX (tm' := [(47, _)]) rfl ⟨rfl, trivial⟩ rfl (DStep.yields (ass rfl)) rfl) ?_
       refine DM.nil ?_
       refine AWP.seq ?_
       refine AWP.prune (tm' := [(1, _), (2, _), (4, _), (5, _), (6, _), (14, _), (35, _), (7, _)]) ⟨rfl, rfl, rfl, rfl, rfl, rfl, rfl, rfl, trivial⟩ ?_
       refine AWP.drawnM [] [.pure 0, .pure 1, .pure 2, .pure 3, .pure 4, .pure 5, .pure 6, .pure 7, .pure 8, .pure 9, .spine 10 [] [2, 3, 4, 5, 6, 7, 8, 9], .pure 11, .spine 12 [] [0, 1, 2, 3, 4, 5, 6, 7, 8, 9, 10, 11]] mixed rfl rfl rfl rfl rfl ?_
       refine DM.pure (GX (tm' := [(5, _)]) rfl ⟨rfl, trivial⟩ rfl (DStep.yields (Yields.fieldAddr_ptr fo25_3 rfl)) rfl) ?_
       refine DM.pure (GX (tm' := [(48, _)]) rfl ⟨rfl, trivial⟩ rfl (DStep.yields (Yields.load_ptr_field (j := 1) kd23 rfl rfl rfl rfl rfl rfl rfl)) rfl) ?_
       refine DM.pure (GX (tm' := [(5, _)]) rfl ⟨rfl, trivial⟩ rfl (DStep.yields (Yields.fieldAddr_ptr fo25_3 rfl)) rfl) ?_
       refine DM.pure (GX (tm' := [(50, _)]) rfl ⟨rfl, trivial⟩ rfl (DStep.yields (Yields.load_ptr_field (j := 1) kd23 rfl rfl rfl rfl rfl rfl rfl)) rfl) ?_
       refine DM.pure (GX (tm' := [(51, _)]) rfl ⟨rfl, trivial⟩ rfl (DStep.yields (Yields.idx_locN sl23 rfl rfl (j := 1) rfl (by omega))) rfl) ?_
       refine DM.pure (GX (tm' := [(52, _)]) rfl ⟨rfl, trivial⟩ rfl (DStep.yields (Yields.load_ptr_aggV (j := 2) kd25 rfl rfl (show (Tr.avs ls)[0 + 1]? = some _ from Tr.avs_at hx1) rfl rfl)) rfl) ?_
       refine DM.pure (GX (tm' := [(5, _)]) rfl ⟨rfl, trivial⟩ rfl (DStep.yields (Yields.fieldAddr_ptr fo25_2 rfl)) rfl) ?_
       refine DM.pure (GX (tm' := [(54, _)]) rfl ⟨rfl, trivial⟩ rfl (DStep.yields (Yields.load_ptr_field (j := 1) kd9 rfl rfl rfl rfl rfl rfl rfl)) rfl) ?_
       refine DM.pure (GX (tm' := [(7, _)]) rfl ⟨rfl, trivial⟩ rfl (DStep.yields (mv rfl)) rfl) ?_
       refine DM.pure (GX (tm' := [(56, _)]) rfl ⟨rfl, trivial⟩ rfl (DStep.callro (nameOf_AF fr) rfl rfl) rfl) ?_
       refine DM.sp rfl rfl ?_
       refine DOpen.nil fun _ _ _ => ?_
       refine AOps.subT (tm' := [(53, _), (55, _), (57, _)]) ⟨rfl, rfl, rfl, trivial⟩ ?_
       refine AOps.callH (.inl trivial) (plugged_AH (.mk zk zn zt zks) t fr hkb (by omega) (by omega)) rfl rfl rfl (WkL.refl _) ?_
       rintro _ _ ⟨⟨yk, yn, yt, yks⟩, y1, y2, rfl, rfl⟩
       refine AOps.nil ?_
       refine SpK.mk rfl rfl ?_ ?_
       ·
        skip
        refine Stab.skip rfl ?_
        refine Stab.skip rfl ?_
        refine Stab.skip rfl ?_
        refine Stab.skip rfl ?_
        refine Stab.skip rfl ?_
        refine Stab.skip rfl ?_
        refine Stab.skip rfl ?_
        refine Stab.skip rfl ?_
        refine Stab.skip rfl ?_
        refine Stab.keep (GX (tm' := [(48, _)]) rfl ⟨rfl, trivial⟩ rfl (DStep.yields (Yields.load_ptr_field (j := 1) kd23 rfl rfl rfl rfl rfl rfl rfl)) rfl) ?_
        refine Stab.keep (GX (tm' := [(5, _)]) rfl ⟨rfl, trivial⟩ rfl (DStep.yields (Yields.fieldAddr_ptr fo25_3 rfl)) rfl) ?_
        exact trivial
       refine DM.pure (GX (tm' := [(49, _)]) rfl ⟨rfl, trivial⟩ rfl (DStep.yields (Yields.idx_locN sl23 rfl rfl (j := 1) rfl (by omega))) rfl) ?_
       refine DM.sp rfl rfl ?_
       refine DOpen.nil fun _ _ _ => ?_
       refine AOps.subT (tm' := [(59, _), (58, _)]) ⟨rfl, rfl, trivial⟩ ?_
       refine AOps.store (j := 2) kd25 rfl rfl (show (Tr.avs ls)[0 + 1]? = some _ from Tr.avs_at hx1) rfl rfl rfl ?_
       refine AOps.leads (Leads.rowEq 2 rfl (show (Tr.avs ls).set (0 + 1) (Tr.av (.mk yk yn yt yks)) = Tr.avs (ls.set 1 (.mk yk yn yt yks)) from avs_set ls 1 _)) ?_
       refine AOps.nil ?_
       refine SpK.mk0 (Stab.all rfl) ?_
       refine DM.nil ?_
       refine AWP.region ?_
       refine Y (mv rfl) rfl ?_
       refine Y (Yields.fieldAddr_ptr fo25_2 rfl) rfl ?_
       refine AOps.storeField (j := 1) kd9 rfl rfl rfl rfl rfl rfl rfl ?_
       refine AOps.nil ?_
       refine ⟨(q3, ls.set 1 (.mk yk yn yt yks), fr), ?_, ?_⟩
       ·
        show (ls.set 1 (.mk yk yn yt yks)).length = ls.length ∧ Tr.bnds 1000000 (ls.set 1 (.mk yk yn yt yks)) ∧ sizeTs (ls.set 1 (.mk yk yn yt yks)) ≤ sizeTs ks ∧ p ≤ q3 ∧ (q3 : Int) ≤ p + 4 * (1 + sizeTs ks) ∧ fr.size ≤ 1000000
        exact ⟨by simp, bnds_set ls 1 _ hlb y1, by have := sizeTs_set1 ls 1 (.mk yk yn yt yks) (.mk zk zn zt zks) hx1 y2; omega, by omega, by omega, by omega⟩
       · exact Leads.keepR (KeepR.cons 0 rfl (KeepR.cons 0 rfl (KeepR.cons 0 rfl (KeepR.cons 1 rfl KeepR.nil)))) ⟨rfl, rfl, trivial⟩
      ·
       replace g2 := of_decide_eq_false g2
       refine AWP.skip ?_
       refine ⟨(q0, ls, t), ?_, ?_⟩
       ·
        show ls.length = ls.length ∧ Tr.bnds 1000000 ls ∧ sizeTs ls ≤ sizeTs ks ∧ p ≤ q0 ∧ (q0 : Int) ≤ p + 4 * (1 + sizeTs ks) ∧ t.size ≤ 1000000
        exact ⟨rfl, hlb, by omega, by omega, by omega, hk1⟩
       · exact Leads.keepR (KeepR.cons 0 rfl (KeepR.cons 0 rfl (KeepR.cons 0 rfl (KeepR.cons 1 rfl KeepR.nil)))) ⟨rfl, rfl, trivial⟩
     ·
      skip
      refine AOps.off' rfl rfl rfl rfl ?_
      refine AOps.off' rfl rfl rfl rfl ?_
      refine AOps.off' rfl rfl rfl rfl ?_
      refine Y (Yields.pick_false rfl rfl) rfl ?_
      refine AOps.nil ?_
      refine AWP.cond rfl (fun h => absurd h (by decide)) (fun _ => ?_)
      refine AWP.skip ?_
      refine ⟨(q, ls, t), ?_, ?_⟩
      ·
       show ls.length = ls.length ∧ Tr.bnds 1000000 ls ∧ sizeTs ls ≤ sizeTs ks ∧ p ≤ q ∧ (q : Int) ≤ p + 4 * (1 + sizeTs ks) ∧ t.size ≤ 1000000
       exact ⟨rfl, hlb, by omega, by omega, by omega, hk1⟩
      · exact Leads.keepR (KeepR.cons 0 rfl (KeepR.cons 0 rfl (KeepR.cons 0 rfl (KeepR.cons 1 rfl KeepR.nil)))) ⟨rfl, rfl, trivial⟩
    ·
     rintro ⟨q2, l2, u⟩ hinv
     replace hinv : l2.length = ls.length ∧ Tr.bnds 1000000 l2 ∧ sizeTs l2 ≤ sizeTs ks ∧ p ≤ q2 ∧ (q2 : Int) ≤ p + 4 * (1 + sizeTs ks) ∧ u.size ≤ 1000000 := hinv
     show AWP _ _ _ _ ⟨[(4, .ptr (some b4) 0 0 4), (5, .ptr (some b5) 0 0 4)], [src b code q2, (some b5, ⟨4, [.agg [int kd, int nm, str u, .loc B 0 ls.length ls.length 4]]⟩), (B, ⟨4, Tr.avs l2⟩), (some b4, ⟨4, [zero4]⟩)]⟩
     refine AWP.seq ?_
     refine AWP.region ?_
     obtain ⟨hl2, hb2, hs2, hq3, hq4, hu2⟩ := hinv
     refine Y (Yields.load_ptr_agg (j := 1) kd25 rfl rfl rfl rfl) rfl ?_
     refine AOps.leads (Leads.pull 2 rfl) ?_
     refine AOps.leads (Leads.freezeT 1 62 (.inl trivial) rfl (fz_node (by omega))) ?_
     refine AOps.store (j := 2) kd25 rfl rfl rfl rfl rfl rfl ?_
     refine AOps.nil ?_
     refine AWP.ret ⟨.inl rfl, ?_⟩
     exact RetH.of (rs := [.cell 4 25]) (vs := [_]) rfl ⟨resOne.cell (j := 2) rfl rfl kd25 rfl rfl rfl, trivial⟩ (KeepR.cons 0 rfl KeepR.nil) (⟨.mk kd nm u l2, q2, ⟨hu2, by omega, hb2⟩, by rw [sizeT]; omega, by omega, by omega, rfl, rfl⟩)
def someVV (N : Int) : AV → Hp → Prop := fun r hp' => ∃ v x : Tr, v.bnd 1000000 ∧ sizeT v ≤ N ∧ x.bnd 1000000 ∧ sizeT x ≤ N ∧ r = .tup [v.av, x.av] ∧ hp' = []
theorem drawExprLike_AH (code : List UInt8) (hc : code.length ≤ 1048576) : FnH 33 [] [.ro 1 (bytesV code) [] false] (someVV 200001) := by
  refine AH.intro Try.func33 nm33 rfl rfl rfl fun w0 ok0 own0 => ?_
  refine AWP.seq ?_
  refine AWP.region ?_
  refine AOps.alloc rfl z25 rfl rfl fun b2 => ?_
  refine AOps.alloc rfl z25 rfl rfl fun b3 => ?_
  refine AOps.nil ?_
  refine AWP.seq ?_
  refine AWP.region ?_
  refine Y (mv rfl) rfl ?_
  refine AOps.callH (.inl trivial) (from_AH code) rfl rfl rfl (WkL.refl _) ?_
  rintro _ _ ⟨b, rfl, rfl⟩
  refine Y (ass rfl) rfl ?_
  refine AOps.nil ?_
  refine AWP.seq ?_
  refine AWP.region ?_
  refine Y (mv rfl) rfl ?_
  refine AOps.callH (.inl trivial) (anyExpr_AH b code 0 hc (by omega)) rfl rfl rfl (WkL.refl _) ?_
  rintro _ _ ⟨⟨vk, vn, vt, vks⟩, q1, w1, w2, w3, w4, rfl, rfl⟩
  refine AOps.alloc rfl z25 rfl rfl fun b5 => ?_
  refine AOps.store (j := 0) kd25 rfl rfl rfl rfl rfl rfl ?_
  refine AOps.nil ?_
  refine AWP.seq ?_
  refine AWP.seq ?_
  refine AWP.region ?_
  refine Y (mv rfl) rfl ?_
  refine AOps.leads (Leads.pull 1 rfl) ?_
  refine AOps.callH (.inl trivial) (pick_AH b code q1 6 hc (by omega) (by omega) (by omega)) rfl rfl rfl (WkL.refl _) ?_
  rintro _ _ ⟨m0, q0, k1, k2, k3, k4, rfl, rfl⟩
  refine Y (bn rfl rfl BinR.eql rfl) rfl ?_
  refine Y (mv rfl) rfl ?_
  refine AOps.split 15 rfl (fun g1 => ?_) (fun g1 => ?_)
  ·
   replace g1 := eq_of_beq g1
   refine AOps.off' rfl rfl rfl rfl ?_
   refine AOps.off' rfl rfl rfl rfl ?_
   refine AOps.off' rfl rfl rfl rfl ?_
   refine Y (Yields.pick_true rfl rfl) rfl ?_
   refine AOps.nil ?_
   refine AWP.cond rfl (fun _ => ?_) (fun h => absurd h (by decide))
   refine AWP.seq ?_
   refine AWP.prune (tm' := [(0, _), (2, _), (3, _), (4, _), (5, _), (19, _)]) ⟨rfl, rfl, rfl, rfl, rfl, rfl, trivial⟩ ?_
   refine AWP.drawnM [] [.pure 0, .pure 1, .spine 2 [] [1], .spine 3 [] [0, 1, 2], .spine 4 [] [0, 1, 2, 3]] mixed rfl rfl rfl rfl rfl ?_
   refine DM.pure (GX (tm' := [(5, _)]) rfl ⟨rfl, trivial⟩ rfl (DStep.yields (Yields.load_ptr_agg (j := 1) kd25 rfl rfl rfl rfl)) rfl) ?_
   refine DM.pure (GX (tm' := [(4, _)]) rfl ⟨rfl, trivial⟩ rfl (DStep.yields (mv rfl)) rfl) ?_
   refine DM.sp rfl rfl ?_
   refine DOpen.nil fun _ _ _ => ?_
   refine AOps.subT (tm' := [(21, _)]) ⟨rfl, trivial⟩ ?_
   refine AOps.callH (.inl trivial) (anyExpr_AH b code q0 hc (by omega)) rfl rfl rfl (WkL.refl _) ?_
   rintro _ _ ⟨⟨xk, xn, xt, xks⟩, q3, y1, y2, y3, y4, rfl, rfl⟩
   refine AOps.nil ?_
   refine SpK.mk rfl rfl ?_ ?_
   ·
    skip
    refine Stab.skip rfl ?_
    refine Stab.skip rfl ?_
    refine Stab.keep (GX (tm' := [(5, _)]) rfl ⟨rfl, trivial⟩ rfl (DStep.yields (Yields.load_ptr_agg (j := 1) kd25 rfl rfl rfl rfl)) rfl) ?_
    exact trivial
   refine DM.sp rfl rfl ?_
   refine DOpen.nil fun _ _ _ => ?_
   refine AOps.subT (tm' := [(2, _), (20, _)]) ⟨rfl, rfl, trivial⟩ ?_
   refine AOps.store (j := 3) kd25 rfl rfl rfl rfl rfl rfl ?_
   refine AOps.nil ?_
   refine SpK.mk0 (Stab.all rfl) ?_
   refine DM.sp rfl rfl ?_
   refine DOpen.nil fun _ _ _ => ?_
   refine AOps.subT (tm' := [(3, _), (22, _)]) ⟨rfl, rfl, trivial⟩ ?_
   refine AOps.store (j := 2) kd25 rfl rfl rfl rfl rfl rfl ?_
   refine AOps.nil ?_
   refine SpK.mk0 (Stab.all rfl) ?_
   refine DM.nil ?_
   refine AWP.ret ⟨.inl rfl, ?_⟩
   exact RetH.of (rs := [.cell 2 25, .cell 3 25]) (vs := [_, _]) rfl ⟨resOne.cell (j := 3) rfl rfl kd25 rfl rfl rfl, resOne.cell (j := 2) rfl rfl kd25 rfl rfl rfl, trivial⟩ KeepR.nil (⟨.mk vk vn vt vks, .mk xk xn xt xks, w1, by omega, y1, by omega, rfl, rfl⟩)
  ·
   replace g1 := ne_of_beq_false g1
   refine AOps.on rfl rfl ?_
   refine Y (Yields.load_ptr_agg (j := 1) kd25 rfl rfl rfl rfl) rfl ?_
   refine AOps.on rfl rfl ?_
   refine AOps.callro (sExprOk_AF (.mk vk vn vt vks) w1 (by omega)) rfl rfl rfl ?_
   refine AOps.on rfl rfl ?_
   refine Y (Yields.not rfl) rfl ?_
   refine Y (Yields.pick_false rfl rfl) rfl ?_
   refine AOps.nil ?_
   refine AWP.condT rfl (fun g2 => ?_) (fun g2 => ?_)
   ·
    skip
    refine AWP.seq ?_
    refine AWP.prune (tm' := [(0, _), (2, _), (3, _), (4, _), (5, _), (19, _)]) ⟨rfl, rfl, rfl, rfl, rfl, rfl, trivial⟩ ?_
    refine AWP.drawnM [] [.pure 0, .pure 1, .spine 2 [] [1], .spine 3 [] [0, 1, 2], .spine 4 [] [0, 1, 2, 3]] mixed rfl rfl rfl rfl rfl ?_
    refine DM.pure (GX (tm' := [(5, _)]) rfl ⟨rfl, trivial⟩ rfl (DStep.yields (Yields.load_ptr_agg (j := 1) kd25 rfl rfl rfl rfl)) rfl) ?_
    refine DM.pure (GX (tm' := [(4, _)]) rfl ⟨rfl, trivial⟩ rfl (DStep.yields (mv rfl)) rfl) ?_
    refine DM.sp rfl rfl ?_
    refine DOpen.nil fun _ _ _ => ?_
    refine AOps.subT (tm' := [(21, _)]) ⟨rfl, trivial⟩ ?_
    refine AOps.callH (.inl trivial) (anyExpr_AH b code q0 hc (by omega)) rfl rfl rfl (WkL.refl _) ?_
    rintro _ _ ⟨⟨xk, xn, xt, xks⟩, q3, y1, y2, y3, y4, rfl, rfl⟩
    refine AOps.nil ?_
    refine SpK.mk rfl rfl ?_ ?_
    ·
     skip
     refine Stab.skip rfl ?_
     refine Stab.skip rfl ?_
     refine Stab.keep (GX (tm' := [(5, _)]) rfl ⟨rfl, trivial⟩ rfl (DStep.yields (Yields.load_ptr_agg (j := 1) kd25 rfl rfl rfl rfl)) rfl) ?_
     exact trivial
    refine DM.sp rfl rfl ?_
    refine DOpen.nil fun _ _ _ => ?_
    refine AOps.subT (tm' := [(2, _), (20, _)]) ⟨rfl, rfl, trivial⟩ ?_
    refine AOps.store (j := 3) kd25 rfl rfl rfl rfl rfl rfl ?_
    refine AOps.nil ?_
    refine SpK.mk0 (Stab.all rfl) ?_
    refine DM.sp rfl rfl ?_
    refine DOpen.nil fun _ _ _ => ?_
    refine AOps.subT (tm' := [(3, _), (22, _)]) ⟨rfl, rfl, trivial⟩ ?_
    refine AOps.store (j := 2) kd25 rfl rfl rfl rfl rfl rfl ?_
    refine AOps.nil ?_
    refine SpK.mk0 (Stab.all rfl) ?_
    refine DM.nil ?_
    refine AWP.ret ⟨.inl rfl, ?_⟩
    exact RetH.of (rs := [.cell 2 25, .cell 3 25]) (vs := [_, _]) rfl ⟨resOne.cell (j := 3) rfl rfl kd25 rfl rfl rfl, resOne.cell (j := 2) rfl rfl kd25 rfl rfl rfl, trivial⟩ KeepR.nil (⟨.mk vk vn vt vks, .mk xk xn xt xks, w1, by omega, y1, by omega, rfl, rfl⟩)
   ·
    skip
    have hok : okE (.mk vk vn vt vks) = true := by simpa using g2
    refine AWP.skip ?_
    refine AWP.seq ?_
    refine AWP.region ?_
    refine Y (Yields.load_ptr_agg (j := 1) kd25 rfl rfl rfl rfl) rfl ?_
    refine Y (mv rfl) rfl ?_
    refine AOps.callH (.inl trivial) (renamed_AH b code hc (.mk vk vn vt vks) 9 q0 w1 (by omega) (okE_valid hok) (by omega)) rfl rfl rfl (WkL.refl _) ?_
    rintro _ _ ⟨⟨xk, xn, xt, xks⟩, q2, y1, y2, y3, y4, rfl, rfl⟩
    refine AOps.alloc rfl z25 rfl rfl fun b6 => ?_
    refine AOps.store (j := 0) kd25 rfl rfl rfl rfl rfl rfl ?_
    refine AOps.nil ?_
    refine AWP.midE (α := Int × Int × ByteArray × List Tr) (fun pp : Int × Int × ByteArray × List Tr => match pp with | (zk, zn, zt, zks) => ⟨[(2, .ptr (some b2) 0 0 4), (3, .ptr (some b3) 0 0 4), (5, .ptr (some b5) 0 0 4), (6, .ptr (some b6) 0 0 4)], [(some b2, ⟨4, [zero4]⟩), (some b3, ⟨4, [zero4]⟩), (some b5, ⟨4, [Tr.av (.mk vk vn vt vks)]⟩), (some b6, ⟨4, [Tr.av (.mk zk zn zt zks)]⟩)]⟩) (fun pp : Int × Int × ByteArray × List Tr => match pp with | (zk, zn, zt, zks) => Tr.bnd 1000000 (.mk zk zn zt zks) ∧ sizeT (.mk zk zn zt zks) ≤ 200001) ?_ ?_
    ·
     skip
     refine AWP.seq ?_
     refine AWP.region ?_
     refine Y (mv rfl) rfl ?_
     refine AOps.leads (Leads.pull 1 rfl) ?_
     refine AOps.callH (.inl trivial) (pick_AH b code q2 5 hc (by omega) (by omega) (by omega)) rfl rfl rfl (WkL.refl _) ?_
     rintro _ _ ⟨m3, q3, i1, i2, i3, i4, rfl, rfl⟩
     refine Y (bn rfl rfl BinR.eql rfl) rfl ?_
     refine AOps.nil ?_
     refine AWP.condT rfl (fun c => ?_) (fun c => ?_)
     ·
      replace c := eq_of_beq c
      refine AWP.seq ?_
      refine AWP.region ?_
      have hL := pathsT_length (.mk xk xn xt xks)
      have hpos := sizeT_pos (.mk xk xn xt xks)
      have hRl := rowsR_length (pathsT (.mk xk xn xt xks))
      refine Y (Yields.load_ptr_agg (j := 1) kd25 rfl rfl rfl rfl) rfl ?_
      refine AOps.callH (.inl trivial) (sbelow0_AH (.mk xk xn xt xks) y1 (by omega)) rfl rfl rfl ⟨Wk.refl _, Wk.nil, trivial⟩ ?_
      rintro _ _ ⟨Ba, rfl, rfl⟩
      refine AOps.leads (Leads.freezeT 1 30 (.inl trivial) rfl (ownR.fz ⟨_, rfl, rfl⟩)) ?_
      refine Y (ass rfl) rfl ?_
      refine AOps.nil ?_
      refine AWP.prune (tm' := [(0, _), (2, _), (3, _), (4, _), (5, _), (19, _), (6, _), (28, _), (7, _)]) ⟨rfl, rfl, rfl, rfl, rfl, rfl, rfl, rfl, rfl, trivial⟩ ?_
      refine AWP.drawnM [] [.pure 0, .pure 1, .pure 2, .pure 3, .pure 4, .pure 8, .spine 5 [] [2, 3, 4], .pure 6, .pure 7, .spine 9 [] [2, 3, 4, 5, 8], .pure 10, .pure 11, .spine 12 [] [0, 1, 2, 3, 4, 5, 6, 7, 8, 9, 10, 11]] mixed rfl rfl rfl rfl rfl ?_
      refine DM.pure (GX (tm' := [(6, _)]) rfl ⟨rfl, trivial⟩ rfl (DStep.yields (Yields.load_ptr_agg (j := 1) kd25 rfl rfl rfl rfl)) rfl) ?_
      refine DM.pure (GX (tm' := [(7, _)]) rfl ⟨rfl, trivial⟩ rfl (DStep.yields (mv rfl)) rfl) ?_
      refine DM.pure (GX (tm' := [(4, _)]) rfl ⟨rfl, trivial⟩ rfl (DStep.yields (mv rfl)) rfl) ?_
      refine DM.pure (GX (tm' := [(7, _)]) rfl ⟨rfl, trivial⟩ rfl (DStep.yields (mv rfl)) rfl) ?_
      refine DM.pure (GX (tm' := [(34, _)]) rfl ⟨rfl, trivial⟩ rfl (DStep.yields (Yields.len_ro sl28 rfl)) rfl) ?_
      refine DM.pure (GX (tm' := [(4, _)]) rfl ⟨rfl, trivial⟩ rfl (DStep.yields (mv rfl)) rfl) ?_
      refine DM.sp rfl rfl ?_
      refine DOpen.nil fun _ _ _ => ?_
      refine AOps.subT (tm' := [(33, _), (35, _)]) ⟨rfl, rfl, trivial⟩ ?_
      refine AOps.callH (.inl trivial) (pick_AH b code q3 (rowsR (pathsT (.mk xk xn xt xks))).length hc (by omega) (by omega) (by omega)) rfl rfl rfl (WkL.refl _) ?_
      rintro _ _ ⟨m6, q6, k5, k6, k7, k8, rfl, rfl⟩
      refine AOps.nil ?_
      refine SpK.mk rfl rfl ?_ ?_
      ·
       skip
       refine Stab.skip rfl ?_
       refine Stab.keep (GX (tm' := [(4, _)]) rfl ⟨rfl, trivial⟩ rfl (DStep.yields (mv rfl)) rfl) ?_
       refine Stab.skip rfl ?_
       refine Stab.skip rfl ?_
       refine Stab.skip rfl ?_
       refine Stab.keep (GX (tm' := [(7, _)]) rfl ⟨rfl, trivial⟩ rfl (DStep.yields (mv rfl)) rfl) ?_
       refine Stab.keep (GX (tm' := [(6, _)]) rfl ⟨rfl, trivial⟩ rfl (DStep.yields (Yields.load_ptr_agg (j := 1) kd25 rfl rfl rfl rfl)) rfl) ?_
       exact trivial
      obtain ⟨pp, hpp, _⟩ := drop_at (l := pathsT (.mk xk xn xt xks)) (i := m6.toNat) (by omega)
      have hpi := List.mem_of_getElem? hpp
      have hpa := pathsT_at _ pp hpi
      have hps := pathsT_short _ pp hpi
      refine DM.pure (GX (tm' := [(32, _), (36, _)]) rfl ⟨rfl, rfl, trivial⟩ rfl (DStep.yields (Yields.idx_roN sl28 rfl rfl rfl (j := m6.toNat) (by omega) (by omega))) rfl) ?_
      refine DM.pure (GX (tm' := [(37, _)]) rfl ⟨rfl, trivial⟩ rfl (DStep.yields (Yields.load_rop_one kd32 rfl (rowsR_at hpp) rfl)) rfl) ?_
      refine DM.sp rfl rfl ?_
      refine DOpen.nil fun _ _ _ => ?_
      refine AOps.subT (tm' := [(39, _)]) ⟨rfl, trivial⟩ ?_
      refine AOps.callH (.inl trivial) (local_AH b code q6 hc (by omega)) rfl rfl rfl (WkL.refl _) ?_
      rintro _ _ ⟨sl, q7, j1, j2, j3, rfl, rfl⟩
      refine AOps.nil ?_
      refine SpK.mk rfl rfl ?_ ?_
      ·
       skip
       refine Stab.skip rfl ?_
       refine Stab.keep (GX (tm' := [(37, _)]) rfl ⟨rfl, trivial⟩ rfl (DStep.yields (Yields.load_rop_one kd32 rfl (rowsR_at hpp) rfl)) rfl) ?_
       refine Stab.keep (GX (tm' := [(32, _), (36, _)]) rfl ⟨rfl, rfl, trivial⟩ rfl (DStep.yields (Yields.idx_roN sl28 rfl rfl rfl (j := m6.toNat) (by omega) (by omega))) rfl) ?_
       refine Stab.skip rfl ?_
       refine Stab.skip rfl ?_
       refine Stab.skip rfl ?_
       refine Stab.skip rfl ?_
       refine Stab.skip rfl ?_
       refine Stab.keep (GX (tm' := [(7, _)]) rfl ⟨rfl, trivial⟩ rfl (DStep.yields (mv rfl)) rfl) ?_
       refine Stab.keep (GX (tm' := [(6, _)]) rfl ⟨rfl, trivial⟩ rfl (DStep.yields (Yields.load_ptr_agg (j := 1) kd25 rfl rfl rfl rfl)) rfl) ?_
       exact trivial
      refine DM.pure (GX (tm' := [(40, _)]) rfl ⟨rfl, trivial⟩ rfl (DStep.callro (nameOf_AF sl) rfl rfl) rfl) ?_
      have hxb : Tr.bnd 1000000 (nameTr sl) := ⟨by omega, by simp, trivial⟩
      have hF := sput_AF (nameTr sl) hxb pp (.mk xk xn xt xks) y1 hpa (by omega)
      have hb := putT_bnd (nameTr sl) hxb pp (.mk xk xn xt xks) y1 hpa
      have hz := putT_size (nameTr sl) pp (.mk xk xn xt xks) hpa
      have hx1 : sizeT (nameTr sl) = 1 := by rw [nameTr, sizeT, sizeTs]; omega
      refine trElim (putT (.mk xk xn xt xks) pp (nameTr sl)) fun uk un ut uks hzz => ?_
      rw [hzz] at hF hb hz
      refine DM.pure (GX (tm' := [(31, _), (38, _), (41, _)]) rfl ⟨rfl, rfl, rfl, trivial⟩ rfl (DStep.callro (hF) rfl rfl) rfl) ?_
      refine DM.sp rfl rfl ?_
      refine DOpen.nil fun _ _ _ => ?_
      refine AOps.subT (tm' := [(6, _), (42, _)]) ⟨rfl, rfl, trivial⟩ ?_
      refine AOps.store (j := 1) kd25 rfl rfl rfl rfl rfl rfl ?_
      refine AOps.nil ?_
      refine SpK.mk0 (Stab.all rfl) ?_
      refine DM.nil ?_
      refine ⟨(uk, un, ut, uks), ?_, ?_⟩
      ·
       show Tr.bnd 1000000 (.mk uk un ut uks) ∧ sizeT (.mk uk un ut uks) ≤ 200001
       exact ⟨hb, by omega⟩
      · exact Leads.keepR (KeepR.cons 4 rfl (KeepR.cons 3 rfl (KeepR.cons 2 rfl (KeepR.cons 1 rfl KeepR.nil)))) ⟨rfl, rfl, rfl, rfl, trivial⟩
     ·
      replace c := ne_of_beq_false c
      refine AWP.skip ?_
      refine ⟨(xk, xn, xt, xks), ?_, ?_⟩
      ·
       show Tr.bnd 1000000 (.mk xk xn xt xks) ∧ sizeT (.mk xk xn xt xks) ≤ 200001
       exact ⟨y1, by omega⟩
      · exact Leads.keepR (KeepR.cons 4 rfl (KeepR.cons 3 rfl (KeepR.cons 2 rfl (KeepR.cons 1 rfl KeepR.nil)))) ⟨rfl, rfl, rfl, rfl, trivial⟩
    ·
     rintro ⟨zk, zn, zt, zks⟩ hinv
     replace hinv : Tr.bnd 1000000 (.mk zk zn zt zks) ∧ sizeT (.mk zk zn zt zks) ≤ 200001 := hinv
     show AWP _ _ _ _ ⟨[(2, .ptr (some b2) 0 0 4), (3, .ptr (some b3) 0 0 4), (5, .ptr (some b5) 0 0 4), (6, .ptr (some b6) 0 0 4)], [(some b2, ⟨4, [zero4]⟩), (some b3, ⟨4, [zero4]⟩), (some b5, ⟨4, [Tr.av (.mk vk vn vt vks)]⟩), (some b6, ⟨4, [Tr.av (.mk zk zn zt zks)]⟩)]⟩
     refine AWP.seq ?_
     refine AWP.prune (tm' := [(2, _), (3, _), (5, _), (6, _)]) ⟨rfl, rfl, rfl, rfl, trivial⟩ ?_
     refine AWP.drawnM [] [.pure 0, .pure 1, .spine 2 [] [0], .spine 3 [] [0, 1, 2]] mixed rfl rfl rfl rfl rfl ?_
     obtain ⟨hw1, hw2⟩ := hinv
     refine DM.pure (GX (tm' := [(5, _)]) rfl ⟨rfl, trivial⟩ rfl (DStep.yields (Yields.load_ptr_agg (j := 2) kd25 rfl rfl rfl rfl)) rfl) ?_
     refine DM.pure (GX (tm' := [(6, _)]) rfl ⟨rfl, trivial⟩ rfl (DStep.yields (Yields.load_ptr_agg (j := 3) kd25 rfl rfl rfl rfl)) rfl) ?_
     refine DM.sp rfl rfl ?_
     refine DOpen.nil fun _ _ _ => ?_
     refine AOps.subT (tm' := [(2, _), (43, _)]) ⟨rfl, rfl, trivial⟩ ?_
     refine AOps.store (j := 0) kd25 rfl rfl rfl rfl rfl rfl ?_
     refine AOps.nil ?_
     refine SpK.mk0 ?_ ?_
     ·
      skip
      refine Stab.keep (GX (tm' := [(6, _)]) rfl ⟨rfl, trivial⟩ rfl (DStep.yields (Yields.load_ptr_agg (j := 3) kd25 rfl rfl rfl rfl)) rfl) ?_
      refine Stab.skip rfl ?_
      exact trivial
     refine DM.sp rfl rfl ?_
     refine DOpen.nil fun _ _ _ => ?_
     refine AOps.subT (tm' := [(3, _), (44, _)]) ⟨rfl, rfl, trivial⟩ ?_
     refine AOps.store (j := 1) kd25 rfl rfl rfl rfl rfl rfl ?_
     refine AOps.nil ?_
     refine SpK.mk0 (Stab.all rfl) ?_
     refine DM.nil ?_
     refine AWP.ret ⟨.inl rfl, ?_⟩
     exact RetH.of (rs := [.cell 2 25, .cell 3 25]) (vs := [_, _]) rfl ⟨resOne.cell (j := 0) rfl rfl kd25 rfl rfl rfl, resOne.cell (j := 1) rfl rfl kd25 rfl rfl rfl, trivial⟩ KeepR.nil (⟨.mk vk vn vt vks, (.mk zk zn zt zks), w1, by omega, hw1, hw2, rfl, rfl⟩)
theorem lawExprLike (code : List UInt8) : Fn 9 [.ro 1 (bytesV code) [] false] (bool true) := by
  have hl := bytesV_length code
  refine AF.intro Try.func9 nm9 rfl rfl rfl rfl fun w0 ok0 => ?_
  refine AWP.seq ?_
  refine AWP.region ?_
  refine Y (ass rfl) rfl ?_
  refine AOps.nil ?_
  refine AWP.seq ?_
  refine AWP.seq ?_
  refine AWP.region ?_
  refine Y (mv rfl) rfl ?_
  refine Y (Yields.len_ro sl22 rfl) rfl ?_
  refine Y (bn rfl rfl BinR.gtr rfl) rfl ?_
  refine AOps.nil ?_
  refine AWP.condT rfl (fun h => ?_) (fun h => ?_)
  ·
   replace h := of_decide_eq_true h
   refine AWP.seq ?_
   refine AWP.region ?_
   refine Y (ass rfl) rfl ?_
   refine AOps.nil ?_
   refine AWP.ret ⟨.inl rfl, ?_⟩
   exact RetIs.oneV rfl rfl (by (rfl) <;> rfl)
  ·
   replace h := of_decide_eq_false h
   refine AWP.skip ?_
   refine AWP.seq ?_
   refine AWP.region ?_
   refine Y (mv rfl) rfl ?_
   refine AOps.callH (.inr rfl) (drawExprLike_AH code (by omega)) rfl rfl rfl (WkL.refl _) ?_
   rintro _ _ ⟨⟨vk, vn, vt, vks⟩, ⟨xk, xn, xt, xks⟩, w1, w2, x1, x2, rfl, rfl⟩
   refine Y (mv rfl) rfl ?_
   refine Y (Yields.extract rfl rfl) rfl ?_
   refine Y (Yields.extract rfl rfl) rfl ?_
   refine AOps.alloc rfl z25 rfl rfl fun b3 => ?_
   refine AOps.alloc rfl z25 rfl rfl fun b4 => ?_
   refine AOps.store (j := 1) kd25 rfl rfl rfl rfl rfl rfl ?_
   refine AOps.store (j := 0) kd25 rfl rfl rfl rfl rfl rfl ?_
   refine AOps.nil ?_
   refine AWP.seq ?_
   refine AWP.region ?_
   refine Y (Yields.load_ptr_agg (j := 1) kd25 rfl rfl rfl rfl) rfl ?_
   refine Y (Yields.load_ptr_agg (j := 0) kd25 rfl rfl rfl rfl) rfl ?_
   refine AOps.callro (iExprLike_AF (.mk vk vn vt vks) (.mk xk xn xt xks) w1 x1) rfl rfl rfl ?_
   refine Y (ass rfl) rfl ?_
   refine AOps.nil ?_
   refine AWP.seq ?_
   refine AWP.region ?_
   refine Y (Yields.load_ptr_agg (j := 1) kd25 rfl rfl rfl rfl) rfl ?_
   refine Y (Yields.load_ptr_agg (j := 0) kd25 rfl rfl rfl rfl) rfl ?_
   refine AOps.callro (sExprLike_AF (.mk vk vn vt vks) (.mk xk xn xt xks) w1 (by omega) x1 (by omega)) rfl rfl rfl ?_
   refine Y (ass rfl) rfl ?_
   refine AOps.nil ?_
   refine AWP.seq ?_
   refine AWP.region ?_
   refine Y (mv rfl) rfl ?_
   refine Y (mv rfl) rfl ?_
   refine Y (bn rfl rfl (BinR.beql Try.underlying4) rfl) rfl ?_
   refine Y (ass rfl) rfl ?_
   refine AOps.nil ?_
   refine AWP.seq ?_
   refine AWP.seq ?_
   refine AWP.region ?_
   refine Y (mv rfl) rfl ?_
   refine Y (Yields.not rfl) rfl ?_
   refine Y (mv rfl) rfl ?_
   refine AOps.split 27 rfl (fun s1 => ?_) (fun s1 => ?_)
   ·
    skip
    simp at s1
   ·
    skip
    refine AOps.on rfl rfl ?_
    refine Y (mv rfl) rfl ?_
    refine AOps.on rfl rfl ?_
    refine Y (Yields.not rfl) rfl ?_
    refine Y (Yields.pick_false rfl rfl) rfl ?_
    refine AOps.nil ?_
    refine AWP.condT rfl (fun s2 => ?_) (fun s2 => ?_)
    ·
     skip
     refine AWP.seq ?_
     refine AWP.region ?_
     refine Y (mv rfl) rfl ?_
     refine Y (ass rfl) rfl ?_
     refine AOps.nil ?_
     refine AWP.ret ⟨.inl rfl, ?_⟩
     exact RetIs.oneV rfl rfl (by (simp) <;> rfl)
    ·
     skip
     have s3 : okE (.mk vk vn vt vks) = true ∧ okE (.mk xk xn xt xks) = true ∧ likeT (.mk vk vn vt vks) (.mk xk xn xt xks) [] [] = true := by simpa using s2
     obtain ⟨q1, q2, q3⟩ := s3
     have hfe : freeE (.mk xk xn xt xks) = freeE (.mk vk vn vt vks) := by rw [freeE, if_pos q2, freeE, if_pos q1, like_free0 q3]
     have hse : sizeE (.mk xk xn xt xks) = sizeE (.mk vk vn vt vks) := by rw [sizeE, if_pos q2, sizeE, if_pos q1, like_size _ _ _ _ 9 (okE_valid q1) (okE_valid q2) q3]
     have hfl := freeE_length (.mk vk vn vt vks)
     have fF := iFreeNames_AF (.mk xk xn xt xks) x1 (by omega)
     have zF := iExprSize_AF (.mk xk xn xt xks) x1 (by omega)
     rw [hfe] at fF
     rw [hse] at zF
     refine AWP.skip ?_
     refine AWP.seq ?_
     refine AWP.prune (tm' := [(0, _), (2, _), (10, _), (3, _), (4, _), (5, _), (6, _), (7, _), (30, _)]) ⟨rfl, rfl, rfl, rfl, rfl, rfl, rfl, rfl, rfl, trivial⟩ ?_
     refine AWP.drawn mixed rfl rfl ?_
     refine D (tm' := [(3, _)]) ⟨rfl, trivial⟩ (DStep.yields (Yields.load_ptr_agg (j := 1) kd25 rfl rfl rfl rfl)) rfl ?_
     refine D (tm' := [(32, _)]) ⟨rfl, trivial⟩ (DStep.callro (iFreeNames_AF (.mk vk vn vt vks) w1 (by omega)) rfl rfl) rfl ?_
     refine D (tm' := [(4, _)]) ⟨rfl, trivial⟩ (DStep.yields (Yields.load_ptr_agg (j := 0) kd25 rfl rfl rfl rfl)) rfl ?_
     refine D (tm' := [(34, _)]) ⟨rfl, trivial⟩ (DStep.callro (fF) rfl rfl) rfl ?_
     refine D (tm' := [(33, _), (35, _)]) ⟨rfl, rfl, trivial⟩ (DStep.callro (sSameTexts_AF (freeE (.mk vk vn vt vks)) (by omega)) rfl rfl) rfl ?_
     refine D (tm' := [(36, _)]) ⟨rfl, trivial⟩ (DStep.yields (mv rfl)) rfl ?_
     refine DOps.split 5 rfl (fun s4 => ?_) (fun s4 => ?_)
     ·
      skip
      refine DOps.on rfl rfl ?_
      refine D (tm' := [(3, _)]) ⟨rfl, trivial⟩ (DStep.yields (Yields.load_ptr_agg (j := 1) kd25 rfl rfl rfl rfl)) rfl ?_
      refine DOps.on rfl rfl ?_
      refine D (tm' := [(38, _)]) ⟨rfl, trivial⟩ (DStep.callro (iExprSize_AF (.mk vk vn vt vks) w1 (by omega)) rfl rfl) rfl ?_
      refine DOps.on rfl rfl ?_
      refine D (tm' := [(4, _)]) ⟨rfl, trivial⟩ (DStep.yields (Yields.load_ptr_agg (j := 0) kd25 rfl rfl rfl rfl)) rfl ?_
      refine DOps.on rfl rfl ?_
      refine D (tm' := [(40, _)]) ⟨rfl, trivial⟩ (DStep.callro (zF) rfl rfl) rfl ?_
      refine DOps.on rfl rfl ?_
      refine D (tm' := [(39, _), (41, _)]) ⟨rfl, rfl, trivial⟩ (DStep.yields (bn rfl rfl BinR.eql rfl)) rfl ?_
      refine D (tm' := [(37, _), (42, _)]) ⟨rfl, rfl, trivial⟩ (DStep.yields (Yields.pick_true rfl rfl)) rfl ?_
      refine D (tm' := [(43, _)]) ⟨rfl, trivial⟩ (DStep.yields (mv rfl)) rfl ?_
      refine DOps.split 12 rfl (fun s5 => ?_) (fun s5 => ?_)
      ·
       replace s5 := eq_of_beq s5
       refine DOps.on rfl rfl ?_
       refine D (tm' := [(4, _)]) ⟨rfl, trivial⟩ (DStep.yields (Yields.load_ptr_agg (j := 0) kd25 rfl rfl rfl rfl)) rfl ?_
       refine DOps.on rfl rfl ?_
       refine D (tm' := [(3, _)]) ⟨rfl, trivial⟩ (DStep.yields (Yields.load_ptr_agg (j := 1) kd25 rfl rfl rfl rfl)) rfl ?_
       refine DOps.on rfl rfl ?_
       refine D (tm' := [(45, _), (46, _)]) ⟨rfl, rfl, trivial⟩ (DStep.callro (iExprLike_AF (.mk xk xn xt xks) (.mk vk vn vt vks) x1 w1) rfl rfl) rfl ?_
       refine D (tm' := [(44, _), (47, _)]) ⟨rfl, rfl, trivial⟩ (DStep.yields (Yields.pick_true rfl rfl)) rfl ?_
       refine D (tm' := [(48, _)]) ⟨rfl, trivial⟩ (DStep.yields (ass rfl)) rfl ?_
       refine DOps.nil ?_
       refine AWP.ret ⟨.inl rfl, ?_⟩
       exact RetIs.oneV rfl rfl (by (rw [q1, q2, like_symm _ _ _ _ q3]; rfl) <;> rfl)
      ·
       replace s5 := ne_of_beq_false s5
       simp at s5
     ·
      skip
      simp at s4
end Go.Proofs.Yteieleejhbljfaa
