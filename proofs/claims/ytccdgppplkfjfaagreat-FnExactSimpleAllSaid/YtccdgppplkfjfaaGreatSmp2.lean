/- Simpler expressions: the reference's operators. -/
import Derived.Test.YtccdgppplkfjfaaGreatSmp
namespace Go.Proofs.YtccdgppplkfjfaaGreat
open Go Go.Ax Go.Proofs
set_option linter.unusedVariables false
set_option linter.unusedSimpArgs false
set_option maxRecDepth 20000
theorem sisTrue_AF (kd nm : Int) (t : ByteArray) (ks : List Tr) (h : kd = 1 → nm = 0 ∨ nm = 1) : Fn 51 [Tr.av (.mk kd nm t ks), bool true] (bool (isB (.mk kd nm t ks) 1)) := sisTruth_AF kd nm t ks true h
theorem sisFalse_AF (kd nm : Int) (t : ByteArray) (ks : List Tr) (h : kd = 1 → nm = 0 ∨ nm = 1) : Fn 51 [Tr.av (.mk kd nm t ks), bool false] (bool (isB (.mk kd nm t ks) 0)) := sisTruth_AF kd nm t ks false h
theorem kn_cases {op : ByteArray} {k : Int} (h : knownB op k = true) (h0 : 0 ≤ k) (h2 : k ≤ 2) : k = 0 ∨ k = 1 ∧ op = oSame ∨ k = 2 ∧ (op = oPlus ∨ op = oSame) := by
  simp only [knownB, Bool.or_eq_true, Bool.and_eq_true, decide_eq_true_eq] at h
  by_cases e0 : k = 0
  · exact .inl e0
  · by_cases e1 : k = 1
    · rcases h with h | ⟨h, h'⟩ | ⟨h, h'⟩
      · exact .inr (.inl ⟨e1, h⟩)
      · exact absurd e1 h'
      · exact absurd h' e0
    · rcases h with h | ⟨h, h'⟩ | ⟨h, h'⟩
      · exact .inr (.inr ⟨by omega, .inr h⟩)
      · exact .inr (.inr ⟨by omega, .inl h⟩)
      · exact absurd h' e0
theorem lit_ok (op : ByteArray) (k a b : Int) (s t : ByteArray) : (litK op k = 0 ∨ litK op k = 1) ∧ litS op k s t = ⟨#[]⟩ ∨ litK op k = 2 ∧ litN op k a b s t = 0 := by
  unfold litK litS litN
  by_cases h : op = oPlus
  · by_cases h2 : k = 2
    · exact .inr (by simp [h, h2])
    · exact .inl (by simp [h, h2])
  · refine .inl ⟨?_, by simp [h]⟩
    simp only [if_neg h]
    split
    · exact .inl rfl
    · exact .inr rfl
theorem simpleBin_AH (kd nm : Int) (op : ByteArray) (ak an : Int) (az : ByteArray) (aks : List Tr) (bk bv : Int) (bs : ByteArray) (bks : List Tr) (ha : okLit ak an az) (hb : okLit bk bv bs) : FnH 36 [] [Tr.av (.mk kd nm op [.mk ak an az aks, .mk bk bv bs bks])] (simV (binT op (.mk ak an az aks) (.mk bk bv bs bks) (.mk kd nm op [.mk ak an az aks, .mk bk bv bs bks]))) := by
  have ha' := ha
  have hb' := hb
  obtain ⟨p1, p2, p3, p4, p5, p6, p7⟩ := ha
  obtain ⟨q1, q2, q3, q4, q5, q6, q7⟩ := hb
  refine AH.intro Tryz.func36 nm36 rfl rfl rfl fun w0 ok0 own0 => ?_
  refine AWP.seq ?_
  refine AWP.region ?_
  refine AOps.box rfl rfl rfl rfl fun b1 => ?_
  refine AOps.alloc rfl z28 rfl rfl fun b2 => ?_
  refine Y (ass rfl) rfl ?_
  refine AOps.nil ?_
  refine AWP.seq ?_
  refine AWP.region ?_
  refine Y (Yields.fieldAddr_ptr fo28_3 rfl) rfl ?_
  refine Y (Yields.load_ptr_field (j := 1) kd26 rfl rfl rfl rfl rfl rfl rfl) rfl ?_
  refine Y (Yields.idx_roN sl26 rfl rfl rfl (j := 0) rfl (by simp [Tr.avs])) rfl ?_
  refine Y (Yields.load_rop_aggV kd28 rfl rfl rfl) rfl ?_
  refine AOps.alloc rfl z28 rfl rfl fun b4 => ?_
  refine AOps.store (j := 0) kd28 rfl rfl rfl rfl rfl rfl ?_
  refine AOps.nil ?_
  refine AWP.seq ?_
  refine AWP.region ?_
  refine Y (Yields.fieldAddr_ptr fo28_3 rfl) rfl ?_
  refine Y (Yields.load_ptr_field (j := 2) kd26 rfl rfl rfl rfl rfl rfl rfl) rfl ?_
  refine Y (Yields.idx_roN sl26 rfl rfl rfl (j := 1) rfl (by simp [Tr.avs])) rfl ?_
  refine Y (Yields.load_rop_aggV kd28 rfl rfl rfl) rfl ?_
  refine AOps.alloc rfl z28 rfl rfl fun b5 => ?_
  refine AOps.store (j := 0) kd28 rfl rfl rfl rfl rfl rfl ?_
  refine AOps.nil ?_
  refine AWP.seq ?_
  refine AWP.block ?_
  refine AWP.midE (α := Bool) (fun c8 : Bool => ⟨[(1, .ptr (some b1) 0 0 4), (2, .ptr (some b2) 0 0 4), (4, .ptr (some b4) 0 0 4), (5, .ptr (some b5) 0 0 4), (14, bool c8)], [(some b1, ⟨4, [Tr.av (.mk kd nm op [.mk ak an az aks, .mk bk bv bs bks])]⟩), (some b2, ⟨4, [zero4]⟩), (some b4, ⟨4, [Tr.av (.mk ak an az aks)]⟩), (some b5, ⟨4, [Tr.av (.mk bk bv bs bks)]⟩)]⟩) (fun c8 : Bool => c8 = inR8 op (.mk ak an az aks) (.mk bk bv bs bks)) ?_ ?_
  ·
   skip
   refine AWP.region ?_
   refine Y (Yields.load_ptr_agg (j := 1) kd28 rfl rfl rfl rfl) rfl ?_
   refine AOps.callro (isLiteral_AF ak an az aks p7) rfl rfl rfl ?_
   refine Y (mv rfl) rfl ?_
   refine AOps.split 17 rfl (fun f1 => ?_) (fun f1 => ?_)
   ·
    skip
    refine AOps.on rfl rfl ?_
    refine Y (Yields.load_ptr_agg (j := 0) kd28 rfl rfl rfl rfl) rfl ?_
    refine AOps.on rfl rfl ?_
    refine AOps.callro (isLiteral_AF bk bv bs bks q7) rfl rfl rfl ?_
    refine Y (Yields.pick_true rfl rfl) rfl ?_
    refine Y (mv rfl) rfl ?_
    refine AOps.split 21 rfl (fun f2 => ?_) (fun f2 => ?_)
    ·
     skip
     refine AOps.on rfl rfl ?_
     refine Y (Yields.fieldAddr_ptr fo28_0 rfl) rfl ?_
     refine AOps.on rfl rfl ?_
     refine Y (Yields.load_ptr_field (j := 1) kd3 rfl rfl rfl rfl rfl rfl rfl) rfl ?_
     refine AOps.on rfl rfl ?_
     refine Y (Yields.fieldAddr_ptr fo28_0 rfl) rfl ?_
     refine AOps.on rfl rfl ?_
     refine Y (Yields.load_ptr_field (j := 0) kd3 rfl rfl rfl rfl rfl rfl rfl) rfl ?_
     refine AOps.on rfl rfl ?_
     refine Y (bn rfl rfl BinR.eql rfl) rfl ?_
     refine Y (Yields.pick_true rfl rfl) rfl ?_
     refine Y (mv rfl) rfl ?_
     refine AOps.split 28 rfl (fun f3 => ?_) (fun f3 => ?_)
     ·
      replace f3 := eq_of_beq f3
      refine AOps.on rfl rfl ?_
      refine Y (Yields.fieldAddr_ptr fo28_2 rfl) rfl ?_
      refine AOps.on rfl rfl ?_
      refine Y (Yields.load_ptr_field (j := 3) kd9 rfl rfl rfl rfl rfl rfl rfl) rfl ?_
      refine AOps.on rfl rfl ?_
      refine Y (Yields.fieldAddr_ptr fo28_0 rfl) rfl ?_
      refine AOps.on rfl rfl ?_
      refine Y (Yields.load_ptr_field (j := 1) kd3 rfl rfl rfl rfl rfl rfl rfl) rfl ?_
      refine AOps.on rfl rfl ?_
      refine AOps.callro (known_AF op ak) rfl rfl rfl ?_
      refine Y (Yields.pick_true rfl rfl) rfl ?_
      refine Y (ass rfl) rfl ?_
      refine AOps.nil ?_
      refine ⟨knownB op ak, ?_, ?_⟩
      ·
       show (knownB op ak) = inR8 op (.mk ak an az aks) (.mk bk bv bs bks)
       rw [inR8, decide_eq_true f3, f1]; rfl
      · exact Leads.keepR (KeepR.cons 3 rfl (KeepR.cons 2 rfl (KeepR.cons 1 rfl (KeepR.cons 0 rfl KeepR.nil)))) ⟨rfl, rfl, rfl, rfl, rfl, trivial⟩
     ·
      replace f3 := ne_of_beq_false f3
      refine AOps.off' rfl rfl rfl rfl ?_
      refine AOps.off' rfl rfl rfl rfl ?_
      refine AOps.off' rfl rfl rfl rfl ?_
      refine AOps.off' rfl rfl rfl rfl ?_
      refine AOps.off' rfl rfl rfl rfl ?_
      refine Y (Yields.pick_false rfl rfl) rfl ?_
      refine Y (ass rfl) rfl ?_
      refine AOps.nil ?_
      refine ⟨false, ?_, ?_⟩
      ·
       show false = inR8 op (.mk ak an az aks) (.mk bk bv bs bks)
       rw [inR8, decide_eq_false f3]; rfl
      · exact Leads.keepR (KeepR.cons 3 rfl (KeepR.cons 2 rfl (KeepR.cons 1 rfl (KeepR.cons 0 rfl KeepR.nil)))) ⟨rfl, rfl, rfl, rfl, rfl, trivial⟩
    ·
     skip
     refine AOps.off' rfl rfl rfl rfl ?_
     refine AOps.off' rfl rfl rfl rfl ?_
     refine AOps.off' rfl rfl rfl rfl ?_
     refine AOps.off' rfl rfl rfl rfl ?_
     refine AOps.off' rfl rfl rfl rfl ?_
     refine Y (Yields.pick_false rfl rfl) rfl ?_
     refine Y (mv rfl) rfl ?_
     refine AOps.off' rfl rfl rfl rfl ?_
     refine AOps.off' rfl rfl rfl rfl ?_
     refine AOps.off' rfl rfl rfl rfl ?_
     refine AOps.off' rfl rfl rfl rfl ?_
     refine AOps.off' rfl rfl rfl rfl ?_
     refine Y (Yields.pick_false rfl rfl) rfl ?_
     refine Y (ass rfl) rfl ?_
     refine AOps.nil ?_
     refine ⟨false, ?_, ?_⟩
     ·
      show false = inR8 op (.mk ak an az aks) (.mk bk bv bs bks)
      rw [inR8]; simp at f2; simp; intro h1 h2; omega
     · exact Leads.keepR (KeepR.cons 3 rfl (KeepR.cons 2 rfl (KeepR.cons 1 rfl (KeepR.cons 0 rfl KeepR.nil)))) ⟨rfl, rfl, rfl, rfl, rfl, trivial⟩
   ·
    skip
    refine AOps.off' rfl rfl rfl rfl ?_
    refine AOps.off' rfl rfl rfl rfl ?_
    refine Y (Yields.pick_false rfl rfl) rfl ?_
    refine Y (mv rfl) rfl ?_
    refine AOps.off' rfl rfl rfl rfl ?_
    refine AOps.off' rfl rfl rfl rfl ?_
    refine AOps.off' rfl rfl rfl rfl ?_
    refine AOps.off' rfl rfl rfl rfl ?_
    refine AOps.off' rfl rfl rfl rfl ?_
    refine Y (Yields.pick_false rfl rfl) rfl ?_
    refine Y (mv rfl) rfl ?_
    refine AOps.off' rfl rfl rfl rfl ?_
    refine AOps.off' rfl rfl rfl rfl ?_
    refine AOps.off' rfl rfl rfl rfl ?_
    refine AOps.off' rfl rfl rfl rfl ?_
    refine AOps.off' rfl rfl rfl rfl ?_
    refine Y (Yields.pick_false rfl rfl) rfl ?_
    refine Y (ass rfl) rfl ?_
    refine AOps.nil ?_
    refine ⟨false, ?_, ?_⟩
    ·
     show false = inR8 op (.mk ak an az aks) (.mk bk bv bs bks)
     rw [inR8, f1]; simp
    · exact Leads.keepR (KeepR.cons 3 rfl (KeepR.cons 2 rfl (KeepR.cons 1 rfl (KeepR.cons 0 rfl KeepR.nil)))) ⟨rfl, rfl, rfl, rfl, rfl, trivial⟩
  ·
   rintro c8 hinv
   refine AWP.condT rfl (fun k8 => ?_) (fun k8 => ?_)
   ·
    skip
    have h8 : inR8 op (.mk ak an az aks) (.mk bk bv bs bks) = true := by rw [← hinv, k8]
    have h8' : (ak = bk ∧ ak ≤ 2) ∧ knownB op ak = true := by simpa [inR8] using h8
    obtain ⟨⟨rfl, h82⟩, hkn⟩ := h8'
    refine AWP.seq ?_
    refine AWP.prune (tm' := [(1, _), (2, _), (4, _), (5, _), (14, _)]) ⟨rfl, rfl, rfl, rfl, rfl, trivial⟩ ?_
    refine AWP.drawnM [] [.pure 0, .pure 1, .pure 2, .pure 3, .pure 4, .pure 5, .pure 6, .pure 7, .spine 8 [] [0, 1, 2, 3, 4, 5, 6, 7], .pure 9] mixed rfl rfl rfl rfl rfl ?_
    refine DM.pure (GX (tm' := [(1, _)]) rfl ⟨rfl, trivial⟩ rfl (DStep.yields (Yields.fieldAddr_ptr fo28_2 rfl)) rfl) ?_
    refine DM.pure (GX (tm' := [(35, _)]) rfl ⟨rfl, trivial⟩ rfl (DStep.yields (Yields.load_ptr_field (j := 0) kd9 rfl rfl rfl rfl rfl rfl rfl)) rfl) ?_
    refine DM.pure (GX (tm' := [(4, _)]) rfl ⟨rfl, trivial⟩ rfl (DStep.yields (Yields.load_ptr_agg (j := 2) kd28 rfl rfl rfl rfl)) rfl) ?_
    refine DM.pure (GX (tm' := [(37, _)]) rfl ⟨rfl, trivial⟩ rfl (DStep.callro (valueOf_AF ak an az aks ha' h82) rfl rfl) rfl) ?_
    refine DM.pure (GX (tm' := [(5, _)]) rfl ⟨rfl, trivial⟩ rfl (DStep.yields (Yields.load_ptr_agg (j := 3) kd28 rfl rfl rfl rfl)) rfl) ?_
    refine DM.pure (GX (tm' := [(39, _)]) rfl ⟨rfl, trivial⟩ rfl (DStep.callro (valueOf_AF ak bv bs bks hb' h82) rfl rfl) rfl) ?_
    refine DM.pure (GX (tm' := [(36, _), (38, _), (40, _)]) rfl ⟨rfl, rfl, rfl, trivial⟩ rfl (DStep.callro (operate_AF op ak an bv az bs (kn_cases hkn p7 h82) ⟨p4, p5⟩ ⟨q4, q5⟩ p6 q6 (known_five hkn)) rfl rfl) rfl) ?_
    refine DM.pure (GX (tm' := [(41, _)]) rfl ⟨rfl, trivial⟩ rfl (DStep.callro (literal_AF (litK op ak) (litN op ak an bv az bs) (litS op ak az bs) (lit_ok op ak an bv az bs)) rfl rfl) rfl) ?_
    refine DM.sp rfl rfl ?_
    refine DOpen.nil fun _ _ _ => ?_
    refine AOps.subT (tm' := [(2, _), (42, _)]) ⟨rfl, rfl, trivial⟩ ?_
    refine AOps.store (j := 1) kd28 rfl rfl rfl rfl rfl rfl ?_
    refine AOps.nil ?_
    refine SpK.mk0 (Stab.all rfl) ?_
    refine DM.pure (GX (tm' := []) rfl trivial rfl (DStep.yields (ass rfl)) rfl) ?_
    refine DM.nil ?_
    refine AWP.ret ⟨.inl rfl, ?_⟩
    exact RetH.of (rs := [.cell 2 28, .tmp 3]) (vs := [_, _]) rfl ⟨resOne.cell (j := 1) rfl rfl kd28 rfl rfl rfl, rfl, trivial⟩ KeepR.nil (⟨by rw [bin8 h8]; rfl, rfl⟩)
   ·
    skip
    have h8 : ¬ inR8 op (.mk ak an az aks) (.mk bk bv bs bks) = true := by rw [← hinv, k8]; simp
    refine AWP.midE (α := Bool) (fun c9 : Bool => ⟨[(1, .ptr (some b1) 0 0 4), (2, .ptr (some b2) 0 0 4), (4, .ptr (some b4) 0 0 4), (5, .ptr (some b5) 0 0 4), (43, bool c9)], [(some b1, ⟨4, [Tr.av (.mk kd nm op [.mk ak an az aks, .mk bk bv bs bks])]⟩), (some b2, ⟨4, [zero4]⟩), (some b4, ⟨4, [Tr.av (.mk ak an az aks)]⟩), (some b5, ⟨4, [Tr.av (.mk bk bv bs bks)]⟩)]⟩) (fun c9 : Bool => c9 = true ↔ inR9 op (.mk bk bv bs bks)) ?_ ?_
    ·
     skip
     refine AWP.seq ?_
     refine AWP.region ?_
     refine Y (Yields.fieldAddr_ptr fo28_2 rfl) rfl ?_
     refine Y (Yields.load_ptr_field (j := 0) kd9 rfl rfl rfl rfl rfl rfl rfl) rfl ?_
     refine Y (bn rfl rfl BinR.seql rfl) rfl ?_
     refine Y (mv rfl) rfl ?_
     refine AOps.split 47 rfl (fun e1 => ?_) (fun e1 => ?_)
     ·
      replace e1 := of_decide_eq_true e1
      refine AOps.on rfl rfl ?_
      refine Y (Yields.load_ptr_agg (j := 3) kd28 rfl rfl rfl rfl) rfl ?_
      refine AOps.on rfl rfl ?_
      refine AOps.callro (sisInt_AF bk bv bs bks 0) rfl rfl rfl ?_
      refine Y (Yields.pick_true rfl rfl) rfl ?_
      refine Y (ass rfl) rfl ?_
      refine AOps.nil ?_
      refine AWP.condT rfl (fun e2 => ?_) (fun e2 => ?_)
      ·
       skip
       refine AWP.skip ?_
       refine ⟨true, ?_, ?_⟩
       ·
        show true = true ↔ inR9 op (.mk bk bv bs bks)
        simp [inR9, e1, e2]
       · exact Leads.keepR (KeepR.cons 0 rfl (KeepR.cons 0 rfl (KeepR.cons 0 rfl (KeepR.cons 0 rfl KeepR.nil)))) ⟨rfl, rfl, rfl, rfl, rfl, trivial⟩
      ·
       skip
       refine AWP.seq ?_
       refine AWP.region ?_
       refine Y (Yields.fieldAddr_ptr fo28_2 rfl) rfl ?_
       refine Y (Yields.load_ptr_field (j := 0) kd9 rfl rfl rfl rfl rfl rfl rfl) rfl ?_
       refine Y (bn rfl rfl BinR.seql rfl) rfl ?_
       refine Y (mv rfl) rfl ?_
       refine AOps.split 54 rfl (fun e3 => ?_) (fun e3 => ?_)
       ·
        replace e3 := of_decide_eq_true e3
        rw [e1] at e3; exact absurd e3 (by decide)
       ·
        replace e3 := of_decide_eq_false e3
        refine AOps.off' rfl rfl rfl rfl ?_
        refine AOps.off' rfl rfl rfl rfl ?_
        refine Y (Yields.pick_false rfl rfl) rfl ?_
        refine Y (ass rfl) rfl ?_
        refine AOps.nil ?_
        refine AWP.cond rfl (fun h => absurd h (by decide)) (fun _ => ?_)
        refine AWP.region ?_
        refine Y (Yields.fieldAddr_ptr fo28_2 rfl) rfl ?_
        refine Y (Yields.load_ptr_field (j := 0) kd9 rfl rfl rfl rfl rfl rfl rfl) rfl ?_
        refine Y (bn rfl rfl BinR.seql rfl) rfl ?_
        refine Y (mv rfl) rfl ?_
        refine AOps.split 61 rfl (fun e5 => ?_) (fun e5 => ?_)
        ·
         replace e5 := of_decide_eq_true e5
         rw [e1] at e5; exact absurd e5 (by decide)
        ·
         replace e5 := of_decide_eq_false e5
         refine AOps.off' rfl rfl rfl rfl ?_
         refine AOps.off' rfl rfl rfl rfl ?_
         refine Y (Yields.pick_false rfl rfl) rfl ?_
         refine Y (ass rfl) rfl ?_
         refine AOps.nil ?_
         refine ⟨false, ?_, ?_⟩
         ·
          show false = true ↔ inR9 op (.mk bk bv bs bks)
          simp [inR9, e1, e2]
         · exact Leads.keepR (KeepR.cons 0 rfl (KeepR.cons 0 rfl (KeepR.cons 0 rfl (KeepR.cons 0 rfl KeepR.nil)))) ⟨rfl, rfl, rfl, rfl, rfl, trivial⟩
     ·
      replace e1 := of_decide_eq_false e1
      refine AOps.off' rfl rfl rfl rfl ?_
      refine AOps.off' rfl rfl rfl rfl ?_
      refine Y (Yields.pick_false rfl rfl) rfl ?_
      refine Y (ass rfl) rfl ?_
      refine AOps.nil ?_
      refine AWP.cond rfl (fun h => absurd h (by decide)) (fun _ => ?_)
      refine AWP.seq ?_
      refine AWP.region ?_
      refine Y (Yields.fieldAddr_ptr fo28_2 rfl) rfl ?_
      refine Y (Yields.load_ptr_field (j := 0) kd9 rfl rfl rfl rfl rfl rfl rfl) rfl ?_
      refine Y (bn rfl rfl BinR.seql rfl) rfl ?_
      refine Y (mv rfl) rfl ?_
      refine AOps.split 54 rfl (fun e3 => ?_) (fun e3 => ?_)
      ·
       replace e3 := of_decide_eq_true e3
       refine AOps.on rfl rfl ?_
       refine Y (Yields.load_ptr_agg (j := 3) kd28 rfl rfl rfl rfl) rfl ?_
       refine AOps.on rfl rfl ?_
       refine AOps.callro (sisInt_AF bk bv bs bks 0) rfl rfl rfl ?_
       refine Y (Yields.pick_true rfl rfl) rfl ?_
       refine Y (ass rfl) rfl ?_
       refine AOps.nil ?_
       refine AWP.condT rfl (fun e4 => ?_) (fun e4 => ?_)
       ·
        skip
        refine AWP.skip ?_
        refine ⟨true, ?_, ?_⟩
        ·
         show true = true ↔ inR9 op (.mk bk bv bs bks)
         simp [inR9, e3, e4]
        · exact Leads.keepR (KeepR.cons 0 rfl (KeepR.cons 0 rfl (KeepR.cons 0 rfl (KeepR.cons 0 rfl KeepR.nil)))) ⟨rfl, rfl, rfl, rfl, rfl, trivial⟩
       ·
        skip
        refine AWP.region ?_
        refine Y (Yields.fieldAddr_ptr fo28_2 rfl) rfl ?_
        refine Y (Yields.load_ptr_field (j := 0) kd9 rfl rfl rfl rfl rfl rfl rfl) rfl ?_
        refine Y (bn rfl rfl BinR.seql rfl) rfl ?_
        refine Y (mv rfl) rfl ?_
        refine AOps.split 61 rfl (fun e5 => ?_) (fun e5 => ?_)
        ·
         replace e5 := of_decide_eq_true e5
         rw [e3] at e5; exact absurd e5 (by decide)
        ·
         replace e5 := of_decide_eq_false e5
         refine AOps.off' rfl rfl rfl rfl ?_
         refine AOps.off' rfl rfl rfl rfl ?_
         refine Y (Yields.pick_false rfl rfl) rfl ?_
         refine Y (ass rfl) rfl ?_
         refine AOps.nil ?_
         refine ⟨false, ?_, ?_⟩
         ·
          show false = true ↔ inR9 op (.mk bk bv bs bks)
          simp [inR9, e3, e4]
         · exact Leads.keepR (KeepR.cons 0 rfl (KeepR.cons 0 rfl (KeepR.cons 0 rfl (KeepR.cons 0 rfl KeepR.nil)))) ⟨rfl, rfl, rfl, rfl, rfl, trivial⟩
      ·
       replace e3 := of_decide_eq_false e3
       refine AOps.off' rfl rfl rfl rfl ?_
       refine AOps.off' rfl rfl rfl rfl ?_
       refine Y (Yields.pick_false rfl rfl) rfl ?_
       refine Y (ass rfl) rfl ?_
       refine AOps.nil ?_
       refine AWP.cond rfl (fun h => absurd h (by decide)) (fun _ => ?_)
       refine AWP.region ?_
       refine Y (Yields.fieldAddr_ptr fo28_2 rfl) rfl ?_
       refine Y (Yields.load_ptr_field (j := 0) kd9 rfl rfl rfl rfl rfl rfl rfl) rfl ?_
       refine Y (bn rfl rfl BinR.seql rfl) rfl ?_
       refine Y (mv rfl) rfl ?_
       refine AOps.split 61 rfl (fun e5 => ?_) (fun e5 => ?_)
       ·
        replace e5 := of_decide_eq_true e5
        refine AOps.on rfl rfl ?_
        refine Y (Yields.load_ptr_agg (j := 3) kd28 rfl rfl rfl rfl) rfl ?_
        refine AOps.on rfl rfl ?_
        refine AOps.callro (sisInt_AF bk bv bs bks 1) rfl rfl rfl ?_
        refine Y (Yields.pick_true rfl rfl) rfl ?_
        refine Y (ass rfl) rfl ?_
        refine AOps.nil ?_
        refine ⟨isI (.mk bk bv bs bks) 1, ?_, ?_⟩
        ·
         show (isI (.mk bk bv bs bks) 1) = true ↔ inR9 op (.mk bk bv bs bks)
         simp [inR9, e1, e3, e5]
        · exact Leads.keepR (KeepR.cons 0 rfl (KeepR.cons 0 rfl (KeepR.cons 0 rfl (KeepR.cons 0 rfl KeepR.nil)))) ⟨rfl, rfl, rfl, rfl, rfl, trivial⟩
       ·
        replace e5 := of_decide_eq_false e5
        refine AOps.off' rfl rfl rfl rfl ?_
        refine AOps.off' rfl rfl rfl rfl ?_
        refine Y (Yields.pick_false rfl rfl) rfl ?_
        refine Y (ass rfl) rfl ?_
        refine AOps.nil ?_
        refine ⟨false, ?_, ?_⟩
        ·
         show false = true ↔ inR9 op (.mk bk bv bs bks)
         simp [inR9, e1, e3, e5]
        · exact Leads.keepR (KeepR.cons 0 rfl (KeepR.cons 0 rfl (KeepR.cons 0 rfl (KeepR.cons 0 rfl KeepR.nil)))) ⟨rfl, rfl, rfl, rfl, rfl, trivial⟩
    ·
     rintro c9 hinv
     refine AWP.condT rfl (fun k9 => ?_) (fun k9 => ?_)
     ·
      skip
      refine AWP.seq ?_
      refine AWP.region ?_
      refine Y (Yields.load_ptr_agg (j := 2) kd28 rfl rfl rfl rfl) rfl ?_
      refine AOps.store (j := 1) kd28 rfl rfl rfl rfl rfl rfl ?_
      refine Y (ass rfl) rfl ?_
      refine AOps.nil ?_
      refine AWP.ret ⟨.inl rfl, ?_⟩
      exact RetH.of (rs := [.cell 2 28, .tmp 3]) (vs := [_, _]) rfl ⟨resOne.cell (j := 1) rfl rfl kd28 rfl rfl rfl, rfl, trivial⟩ KeepR.nil (⟨by rw [bin9 h8 (hinv.1 k9)]; rfl, rfl⟩)
     ·
      skip
      have h9 : ¬ inR9 op (.mk bk bv bs bks) := fun e => by rw [hinv.2 e] at k9; cases k9
      refine AWP.midE (α := Bool) (fun c10 : Bool => ⟨[(1, .ptr (some b1) 0 0 4), (2, .ptr (some b2) 0 0 4), (4, .ptr (some b4) 0 0 4), (5, .ptr (some b5) 0 0 4), (66, bool c10)], [(some b1, ⟨4, [Tr.av (.mk kd nm op [.mk ak an az aks, .mk bk bv bs bks])]⟩), (some b2, ⟨4, [zero4]⟩), (some b4, ⟨4, [Tr.av (.mk ak an az aks)]⟩), (some b5, ⟨4, [Tr.av (.mk bk bv bs bks)]⟩)]⟩) (fun c10 : Bool => c10 = true ↔ inR10 op (.mk ak an az aks)) ?_ ?_
      ·
       skip
       refine AWP.seq ?_
       refine AWP.region ?_
       refine Y (Yields.fieldAddr_ptr fo28_2 rfl) rfl ?_
       refine Y (Yields.load_ptr_field (j := 0) kd9 rfl rfl rfl rfl rfl rfl rfl) rfl ?_
       refine Y (bn rfl rfl BinR.seql rfl) rfl ?_
       refine Y (mv rfl) rfl ?_
       refine AOps.split 70 rfl (fun e1 => ?_) (fun e1 => ?_)
       ·
        replace e1 := of_decide_eq_true e1
        refine AOps.on rfl rfl ?_
        refine Y (Yields.load_ptr_agg (j := 2) kd28 rfl rfl rfl rfl) rfl ?_
        refine AOps.on rfl rfl ?_
        refine AOps.callro (sisInt_AF ak an az aks 0) rfl rfl rfl ?_
        refine Y (Yields.pick_true rfl rfl) rfl ?_
        refine Y (ass rfl) rfl ?_
        refine AOps.nil ?_
        refine AWP.condT rfl (fun e2 => ?_) (fun e2 => ?_)
        ·
         skip
         refine AWP.skip ?_
         refine ⟨true, ?_, ?_⟩
         ·
          show true = true ↔ inR10 op (.mk ak an az aks)
          simp [inR10, e1, e2]
         · exact Leads.keepR (KeepR.cons 0 rfl (KeepR.cons 0 rfl (KeepR.cons 0 rfl (KeepR.cons 0 rfl KeepR.nil)))) ⟨rfl, rfl, rfl, rfl, rfl, trivial⟩
        ·
         skip
         refine AWP.region ?_
         refine Y (Yields.fieldAddr_ptr fo28_2 rfl) rfl ?_
         refine Y (Yields.load_ptr_field (j := 0) kd9 rfl rfl rfl rfl rfl rfl rfl) rfl ?_
         refine Y (bn rfl rfl BinR.seql rfl) rfl ?_
         refine Y (mv rfl) rfl ?_
         refine AOps.split 77 rfl (fun e3 => ?_) (fun e3 => ?_)
         ·
          replace e3 := of_decide_eq_true e3
          rw [e1] at e3; exact absurd e3 (by decide)
         ·
          replace e3 := of_decide_eq_false e3
          refine AOps.off' rfl rfl rfl rfl ?_
          refine AOps.off' rfl rfl rfl rfl ?_
          refine Y (Yields.pick_false rfl rfl) rfl ?_
          refine Y (ass rfl) rfl ?_
          refine AOps.nil ?_
          refine ⟨false, ?_, ?_⟩
          ·
           show false = true ↔ inR10 op (.mk ak an az aks)
           simp [inR10, e1, e2]
          · exact Leads.keepR (KeepR.cons 0 rfl (KeepR.cons 0 rfl (KeepR.cons 0 rfl (KeepR.cons 0 rfl KeepR.nil)))) ⟨rfl, rfl, rfl, rfl, rfl, trivial⟩
       ·
        replace e1 := of_decide_eq_false e1
        refine AOps.off' rfl rfl rfl rfl ?_
        refine AOps.off' rfl rfl rfl rfl ?_
        refine Y (Yields.pick_false rfl rfl) rfl ?_
        refine Y (ass rfl) rfl ?_
        refine AOps.nil ?_
        refine AWP.cond rfl (fun h => absurd h (by decide)) (fun _ => ?_)
        refine AWP.region ?_
        refine Y (Yields.fieldAddr_ptr fo28_2 rfl) rfl ?_
        refine Y (Yields.load_ptr_field (j := 0) kd9 rfl rfl rfl rfl rfl rfl rfl) rfl ?_
        refine Y (bn rfl rfl BinR.seql rfl) rfl ?_
        refine Y (mv rfl) rfl ?_
        refine AOps.split 77 rfl (fun e3 => ?_) (fun e3 => ?_)
        ·
         replace e3 := of_decide_eq_true e3
         refine AOps.on rfl rfl ?_
         refine Y (Yields.load_ptr_agg (j := 2) kd28 rfl rfl rfl rfl) rfl ?_
         refine AOps.on rfl rfl ?_
         refine AOps.callro (sisInt_AF ak an az aks 1) rfl rfl rfl ?_
         refine Y (Yields.pick_true rfl rfl) rfl ?_
         refine Y (ass rfl) rfl ?_
         refine AOps.nil ?_
         refine ⟨isI (.mk ak an az aks) 1, ?_, ?_⟩
         ·
          show (isI (.mk ak an az aks) 1) = true ↔ inR10 op (.mk ak an az aks)
          simp [inR10, e1, e3]
         · exact Leads.keepR (KeepR.cons 0 rfl (KeepR.cons 0 rfl (KeepR.cons 0 rfl (KeepR.cons 0 rfl KeepR.nil)))) ⟨rfl, rfl, rfl, rfl, rfl, trivial⟩
        ·
         replace e3 := of_decide_eq_false e3
         refine AOps.off' rfl rfl rfl rfl ?_
         refine AOps.off' rfl rfl rfl rfl ?_
         refine Y (Yields.pick_false rfl rfl) rfl ?_
         refine Y (ass rfl) rfl ?_
         refine AOps.nil ?_
         refine ⟨false, ?_, ?_⟩
         ·
          show false = true ↔ inR10 op (.mk ak an az aks)
          simp [inR10, e1, e3]
         · exact Leads.keepR (KeepR.cons 0 rfl (KeepR.cons 0 rfl (KeepR.cons 0 rfl (KeepR.cons 0 rfl KeepR.nil)))) ⟨rfl, rfl, rfl, rfl, rfl, trivial⟩
      ·
       rintro c10 hinv
       refine AWP.condT rfl (fun k10 => ?_) (fun k10 => ?_)
       ·
        skip
        refine AWP.seq ?_
        refine AWP.region ?_
        refine Y (Yields.load_ptr_agg (j := 3) kd28 rfl rfl rfl rfl) rfl ?_
        refine AOps.store (j := 1) kd28 rfl rfl rfl rfl rfl rfl ?_
        refine Y (ass rfl) rfl ?_
        refine AOps.nil ?_
        refine AWP.ret ⟨.inl rfl, ?_⟩
        exact RetH.of (rs := [.cell 2 28, .tmp 3]) (vs := [_, _]) rfl ⟨resOne.cell (j := 1) rfl rfl kd28 rfl rfl rfl, rfl, trivial⟩ KeepR.nil (⟨by rw [bin10 h8 h9 (hinv.1 k10)]; rfl, rfl⟩)
       ·
        skip
        have h10 : ¬ inR10 op (.mk ak an az aks) := fun e => by rw [hinv.2 e] at k10; cases k10
        refine AWP.midE (α := Bool) (fun c11 : Bool => ⟨[(1, .ptr (some b1) 0 0 4), (2, .ptr (some b2) 0 0 4), (4, .ptr (some b4) 0 0 4), (5, .ptr (some b5) 0 0 4), (82, bool c11)], [(some b1, ⟨4, [Tr.av (.mk kd nm op [.mk ak an az aks, .mk bk bv bs bks])]⟩), (some b2, ⟨4, [zero4]⟩), (some b4, ⟨4, [Tr.av (.mk ak an az aks)]⟩), (some b5, ⟨4, [Tr.av (.mk bk bv bs bks)]⟩)]⟩) (fun c11 : Bool => c11 = true ↔ inR11 op (.mk ak an az aks) (.mk bk bv bs bks)) ?_ ?_
        ·
         skip
         refine AWP.seq ?_
         refine AWP.region ?_
         refine Y (Yields.fieldAddr_ptr fo28_2 rfl) rfl ?_
         refine Y (Yields.load_ptr_field (j := 0) kd9 rfl rfl rfl rfl rfl rfl rfl) rfl ?_
         refine Y (bn rfl rfl BinR.seql rfl) rfl ?_
         refine Y (mv rfl) rfl ?_
         refine AOps.split 86 rfl (fun e1 => ?_) (fun e1 => ?_)
         ·
          replace e1 := of_decide_eq_true e1
          refine AOps.on rfl rfl ?_
          refine Y (Yields.load_ptr_agg (j := 3) kd28 rfl rfl rfl rfl) rfl ?_
          refine AOps.on rfl rfl ?_
          refine AOps.callro (sisTrue_AF bk bv bs bks (fun e => (q2 e).1)) rfl rfl rfl ?_
          refine Y (Yields.pick_true rfl rfl) rfl ?_
          refine Y (ass rfl) rfl ?_
          refine AOps.nil ?_
          refine AWP.condT rfl (fun e2 => ?_) (fun e2 => ?_)
          ·
           skip
           refine AWP.skip ?_
           refine ⟨true, ?_, ?_⟩
           ·
            show true = true ↔ inR11 op (.mk ak an az aks) (.mk bk bv bs bks)
            simp [inR11, e1, e2]
           · exact Leads.keepR (KeepR.cons 0 rfl (KeepR.cons 0 rfl (KeepR.cons 0 rfl (KeepR.cons 0 rfl KeepR.nil)))) ⟨rfl, rfl, rfl, rfl, rfl, trivial⟩
          ·
           skip
           refine AWP.seq ?_
           refine AWP.region ?_
           refine Y (Yields.fieldAddr_ptr fo28_2 rfl) rfl ?_
           refine Y (Yields.load_ptr_field (j := 0) kd9 rfl rfl rfl rfl rfl rfl rfl) rfl ?_
           refine Y (bn rfl rfl BinR.seql rfl) rfl ?_
           refine Y (mv rfl) rfl ?_
           refine AOps.split 93 rfl (fun e3 => ?_) (fun e3 => ?_)
           ·
            replace e3 := of_decide_eq_true e3
            rw [e1] at e3; exact absurd e3 (by decide)
           ·
            replace e3 := of_decide_eq_false e3
            refine AOps.off' rfl rfl rfl rfl ?_
            refine AOps.off' rfl rfl rfl rfl ?_
            refine Y (Yields.pick_false rfl rfl) rfl ?_
            refine Y (ass rfl) rfl ?_
            refine AOps.nil ?_
            refine AWP.cond rfl (fun h => absurd h (by decide)) (fun _ => ?_)
            refine AWP.seq ?_
            refine AWP.region ?_
            refine Y (Yields.fieldAddr_ptr fo28_2 rfl) rfl ?_
            refine Y (Yields.load_ptr_field (j := 0) kd9 rfl rfl rfl rfl rfl rfl rfl) rfl ?_
            refine Y (bn rfl rfl BinR.seql rfl) rfl ?_
            refine Y (mv rfl) rfl ?_
            refine AOps.split 100 rfl (fun e4 => ?_) (fun e4 => ?_)
            ·
             replace e4 := of_decide_eq_true e4
             refine AOps.on rfl rfl ?_
             refine Y (Yields.load_ptr_agg (j := 2) kd28 rfl rfl rfl rfl) rfl ?_
             refine AOps.on rfl rfl ?_
             refine AOps.callro (sisFalse_AF ak an az aks (fun e => (p2 e).1)) rfl rfl rfl ?_
             refine Y (Yields.pick_true rfl rfl) rfl ?_
             refine Y (ass rfl) rfl ?_
             refine AOps.nil ?_
             refine AWP.condT rfl (fun e5 => ?_) (fun e5 => ?_)
             ·
              skip
              refine AWP.skip ?_
              refine ⟨true, ?_, ?_⟩
              ·
               show true = true ↔ inR11 op (.mk ak an az aks) (.mk bk bv bs bks)
               simp [inR11, e1, e5]
              · exact Leads.keepR (KeepR.cons 0 rfl (KeepR.cons 0 rfl (KeepR.cons 0 rfl (KeepR.cons 0 rfl KeepR.nil)))) ⟨rfl, rfl, rfl, rfl, rfl, trivial⟩
             ·
              skip
              refine AWP.region ?_
              refine Y (Yields.fieldAddr_ptr fo28_2 rfl) rfl ?_
              refine Y (Yields.load_ptr_field (j := 0) kd9 rfl rfl rfl rfl rfl rfl rfl) rfl ?_
              refine Y (bn rfl rfl BinR.seql rfl) rfl ?_
              refine Y (mv rfl) rfl ?_
              refine AOps.split 107 rfl (fun e6 => ?_) (fun e6 => ?_)
              ·
               replace e6 := of_decide_eq_true e6
               rw [e1] at e6; exact absurd e6 (by decide)
              ·
               replace e6 := of_decide_eq_false e6
               refine AOps.off' rfl rfl rfl rfl ?_
               refine AOps.off' rfl rfl rfl rfl ?_
               refine Y (Yields.pick_false rfl rfl) rfl ?_
               refine Y (ass rfl) rfl ?_
               refine AOps.nil ?_
               refine ⟨false, ?_, ?_⟩
               ·
                show false = true ↔ inR11 op (.mk ak an az aks) (.mk bk bv bs bks)
                simp [inR11, e1, e2, e5]
               · exact Leads.keepR (KeepR.cons 0 rfl (KeepR.cons 0 rfl (KeepR.cons 0 rfl (KeepR.cons 0 rfl KeepR.nil)))) ⟨rfl, rfl, rfl, rfl, rfl, trivial⟩
            ·
             replace e4 := of_decide_eq_false e4
             exact absurd e1 e4
         ·
          replace e1 := of_decide_eq_false e1
          refine AOps.off' rfl rfl rfl rfl ?_
          refine AOps.off' rfl rfl rfl rfl ?_
          refine Y (Yields.pick_false rfl rfl) rfl ?_
          refine Y (ass rfl) rfl ?_
          refine AOps.nil ?_
          refine AWP.cond rfl (fun h => absurd h (by decide)) (fun _ => ?_)
          refine AWP.seq ?_
          refine AWP.region ?_
          refine Y (Yields.fieldAddr_ptr fo28_2 rfl) rfl ?_
          refine Y (Yields.load_ptr_field (j := 0) kd9 rfl rfl rfl rfl rfl rfl rfl) rfl ?_
          refine Y (bn rfl rfl BinR.seql rfl) rfl ?_
          refine Y (mv rfl) rfl ?_
          refine AOps.split 93 rfl (fun e3 => ?_) (fun e3 => ?_)
          ·
           replace e3 := of_decide_eq_true e3
           refine AOps.on rfl rfl ?_
           refine Y (Yields.load_ptr_agg (j := 3) kd28 rfl rfl rfl rfl) rfl ?_
           refine AOps.on rfl rfl ?_
           refine AOps.callro (sisFalse_AF bk bv bs bks (fun e => (q2 e).1)) rfl rfl rfl ?_
           refine Y (Yields.pick_true rfl rfl) rfl ?_
           refine Y (ass rfl) rfl ?_
           refine AOps.nil ?_
           refine AWP.condT rfl (fun e7 => ?_) (fun e7 => ?_)
           ·
            skip
            refine AWP.skip ?_
            refine ⟨true, ?_, ?_⟩
            ·
             show true = true ↔ inR11 op (.mk ak an az aks) (.mk bk bv bs bks)
             simp [inR11, e3, e7]
            · exact Leads.keepR (KeepR.cons 0 rfl (KeepR.cons 0 rfl (KeepR.cons 0 rfl (KeepR.cons 0 rfl KeepR.nil)))) ⟨rfl, rfl, rfl, rfl, rfl, trivial⟩
           ·
            skip
            refine AWP.seq ?_
            refine AWP.region ?_
            refine Y (Yields.fieldAddr_ptr fo28_2 rfl) rfl ?_
            refine Y (Yields.load_ptr_field (j := 0) kd9 rfl rfl rfl rfl rfl rfl rfl) rfl ?_
            refine Y (bn rfl rfl BinR.seql rfl) rfl ?_
            refine Y (mv rfl) rfl ?_
            refine AOps.split 100 rfl (fun e4 => ?_) (fun e4 => ?_)
            ·
             replace e4 := of_decide_eq_true e4
             rw [e3] at e4; exact absurd e4 (by decide)
            ·
             replace e4 := of_decide_eq_false e4
             refine AOps.off' rfl rfl rfl rfl ?_
             refine AOps.off' rfl rfl rfl rfl ?_
             refine Y (Yields.pick_false rfl rfl) rfl ?_
             refine Y (ass rfl) rfl ?_
             refine AOps.nil ?_
             refine AWP.cond rfl (fun h => absurd h (by decide)) (fun _ => ?_)
             refine AWP.region ?_
             refine Y (Yields.fieldAddr_ptr fo28_2 rfl) rfl ?_
             refine Y (Yields.load_ptr_field (j := 0) kd9 rfl rfl rfl rfl rfl rfl rfl) rfl ?_
             refine Y (bn rfl rfl BinR.seql rfl) rfl ?_
             refine Y (mv rfl) rfl ?_
             refine AOps.split 107 rfl (fun e6 => ?_) (fun e6 => ?_)
             ·
              replace e6 := of_decide_eq_true e6
              refine AOps.on rfl rfl ?_
              refine Y (Yields.load_ptr_agg (j := 2) kd28 rfl rfl rfl rfl) rfl ?_
              refine AOps.on rfl rfl ?_
              refine AOps.callro (sisTrue_AF ak an az aks (fun e => (p2 e).1)) rfl rfl rfl ?_
              refine Y (Yields.pick_true rfl rfl) rfl ?_
              refine Y (ass rfl) rfl ?_
              refine AOps.nil ?_
              refine ⟨isB (.mk ak an az aks) 1, ?_, ?_⟩
              ·
               show (isB (.mk ak an az aks) 1) = true ↔ inR11 op (.mk ak an az aks) (.mk bk bv bs bks)
               simp [inR11, e3, e7]
              · exact Leads.keepR (KeepR.cons 0 rfl (KeepR.cons 0 rfl (KeepR.cons 0 rfl (KeepR.cons 0 rfl KeepR.nil)))) ⟨rfl, rfl, rfl, rfl, rfl, trivial⟩
             ·
              replace e6 := of_decide_eq_false e6
              exact absurd e3 e6
          ·
           replace e3 := of_decide_eq_false e3
           refine AOps.off' rfl rfl rfl rfl ?_
           refine AOps.off' rfl rfl rfl rfl ?_
           refine Y (Yields.pick_false rfl rfl) rfl ?_
           refine Y (ass rfl) rfl ?_
           refine AOps.nil ?_
           refine AWP.cond rfl (fun h => absurd h (by decide)) (fun _ => ?_)
           refine AWP.seq ?_
           refine AWP.region ?_
           refine Y (Yields.fieldAddr_ptr fo28_2 rfl) rfl ?_
           refine Y (Yields.load_ptr_field (j := 0) kd9 rfl rfl rfl rfl rfl rfl rfl) rfl ?_
           refine Y (bn rfl rfl BinR.seql rfl) rfl ?_
           refine Y (mv rfl) rfl ?_
           refine AOps.split 100 rfl (fun e4 => ?_) (fun e4 => ?_)
           ·
            replace e4 := of_decide_eq_true e4
            exact absurd e4 e1
           ·
            replace e4 := of_decide_eq_false e4
            refine AOps.off' rfl rfl rfl rfl ?_
            refine AOps.off' rfl rfl rfl rfl ?_
            refine Y (Yields.pick_false rfl rfl) rfl ?_
            refine Y (ass rfl) rfl ?_
            refine AOps.nil ?_
            refine AWP.cond rfl (fun h => absurd h (by decide)) (fun _ => ?_)
            refine AWP.region ?_
            refine Y (Yields.fieldAddr_ptr fo28_2 rfl) rfl ?_
            refine Y (Yields.load_ptr_field (j := 0) kd9 rfl rfl rfl rfl rfl rfl rfl) rfl ?_
            refine Y (bn rfl rfl BinR.seql rfl) rfl ?_
            refine Y (mv rfl) rfl ?_
            refine AOps.split 107 rfl (fun e6 => ?_) (fun e6 => ?_)
            ·
             replace e6 := of_decide_eq_true e6
             exact absurd e6 e3
            ·
             replace e6 := of_decide_eq_false e6
             refine AOps.off' rfl rfl rfl rfl ?_
             refine AOps.off' rfl rfl rfl rfl ?_
             refine Y (Yields.pick_false rfl rfl) rfl ?_
             refine Y (ass rfl) rfl ?_
             refine AOps.nil ?_
             refine ⟨false, ?_, ?_⟩
             ·
              show false = true ↔ inR11 op (.mk ak an az aks) (.mk bk bv bs bks)
              simp [inR11, e1, e3]
             · exact Leads.keepR (KeepR.cons 0 rfl (KeepR.cons 0 rfl (KeepR.cons 0 rfl (KeepR.cons 0 rfl KeepR.nil)))) ⟨rfl, rfl, rfl, rfl, rfl, trivial⟩
        ·
         rintro c11 hinv
         refine AWP.condT rfl (fun k11 => ?_) (fun k11 => ?_)
         ·
          skip
          refine AWP.seq ?_
          refine AWP.region ?_
          refine Y (Yields.load_ptr_agg (j := 2) kd28 rfl rfl rfl rfl) rfl ?_
          refine AOps.store (j := 1) kd28 rfl rfl rfl rfl rfl rfl ?_
          refine Y (ass rfl) rfl ?_
          refine AOps.nil ?_
          refine AWP.ret ⟨.inl rfl, ?_⟩
          exact RetH.of (rs := [.cell 2 28, .tmp 3]) (vs := [_, _]) rfl ⟨resOne.cell (j := 1) rfl rfl kd28 rfl rfl rfl, rfl, trivial⟩ KeepR.nil (⟨by rw [bin11 h8 h9 h10 (hinv.1 k11)]; rfl, rfl⟩)
         ·
          skip
          have h11 : ¬ inR11 op (.mk ak an az aks) (.mk bk bv bs bks) := fun e => by rw [hinv.2 e] at k11; cases k11
          refine AWP.midE (α := Bool) (fun c12 : Bool => ⟨[(1, .ptr (some b1) 0 0 4), (2, .ptr (some b2) 0 0 4), (4, .ptr (some b4) 0 0 4), (5, .ptr (some b5) 0 0 4), (112, bool c12)], [(some b1, ⟨4, [Tr.av (.mk kd nm op [.mk ak an az aks, .mk bk bv bs bks])]⟩), (some b2, ⟨4, [zero4]⟩), (some b4, ⟨4, [Tr.av (.mk ak an az aks)]⟩), (some b5, ⟨4, [Tr.av (.mk bk bv bs bks)]⟩)]⟩) (fun c12 : Bool => c12 = true ↔ inR12 op (.mk ak an az aks)) ?_ ?_
          ·
           skip
           refine AWP.seq ?_
           refine AWP.region ?_
           refine Y (Yields.fieldAddr_ptr fo28_2 rfl) rfl ?_
           refine Y (Yields.load_ptr_field (j := 0) kd9 rfl rfl rfl rfl rfl rfl rfl) rfl ?_
           refine Y (bn rfl rfl BinR.seql rfl) rfl ?_
           refine Y (mv rfl) rfl ?_
           refine AOps.split 116 rfl (fun e1 => ?_) (fun e1 => ?_)
           ·
            replace e1 := of_decide_eq_true e1
            refine AOps.on rfl rfl ?_
            refine Y (Yields.load_ptr_agg (j := 2) kd28 rfl rfl rfl rfl) rfl ?_
            refine AOps.on rfl rfl ?_
            refine AOps.callro (sisTrue_AF ak an az aks (fun e => (p2 e).1)) rfl rfl rfl ?_
            refine Y (Yields.pick_true rfl rfl) rfl ?_
            refine Y (ass rfl) rfl ?_
            refine AOps.nil ?_
            refine AWP.condT rfl (fun e2 => ?_) (fun e2 => ?_)
            ·
             skip
             refine AWP.skip ?_
             refine ⟨true, ?_, ?_⟩
             ·
              show true = true ↔ inR12 op (.mk ak an az aks)
              simp [inR12, e1, e2]
             · exact Leads.keepR (KeepR.cons 0 rfl (KeepR.cons 0 rfl (KeepR.cons 0 rfl (KeepR.cons 0 rfl KeepR.nil)))) ⟨rfl, rfl, rfl, rfl, rfl, trivial⟩
            ·
             skip
             refine AWP.region ?_
             refine Y (Yields.fieldAddr_ptr fo28_2 rfl) rfl ?_
             refine Y (Yields.load_ptr_field (j := 0) kd9 rfl rfl rfl rfl rfl rfl rfl) rfl ?_
             refine Y (bn rfl rfl BinR.seql rfl) rfl ?_
             refine Y (mv rfl) rfl ?_
             refine AOps.split 123 rfl (fun e3 => ?_) (fun e3 => ?_)
             ·
              replace e3 := of_decide_eq_true e3
              rw [e1] at e3; exact absurd e3 (by decide)
             ·
              replace e3 := of_decide_eq_false e3
              refine AOps.off' rfl rfl rfl rfl ?_
              refine AOps.off' rfl rfl rfl rfl ?_
              refine Y (Yields.pick_false rfl rfl) rfl ?_
              refine Y (ass rfl) rfl ?_
              refine AOps.nil ?_
              refine ⟨false, ?_, ?_⟩
              ·
               show false = true ↔ inR12 op (.mk ak an az aks)
               simp [inR12, e1, e2]
              · exact Leads.keepR (KeepR.cons 0 rfl (KeepR.cons 0 rfl (KeepR.cons 0 rfl (KeepR.cons 0 rfl KeepR.nil)))) ⟨rfl, rfl, rfl, rfl, rfl, trivial⟩
           ·
            replace e1 := of_decide_eq_false e1
            refine AOps.off' rfl rfl rfl rfl ?_
            refine AOps.off' rfl rfl rfl rfl ?_
            refine Y (Yields.pick_false rfl rfl) rfl ?_
            refine Y (ass rfl) rfl ?_
            refine AOps.nil ?_
            refine AWP.cond rfl (fun h => absurd h (by decide)) (fun _ => ?_)
            refine AWP.region ?_
            refine Y (Yields.fieldAddr_ptr fo28_2 rfl) rfl ?_
            refine Y (Yields.load_ptr_field (j := 0) kd9 rfl rfl rfl rfl rfl rfl rfl) rfl ?_
            refine Y (bn rfl rfl BinR.seql rfl) rfl ?_
            refine Y (mv rfl) rfl ?_
            refine AOps.split 123 rfl (fun e3 => ?_) (fun e3 => ?_)
            ·
             replace e3 := of_decide_eq_true e3
             refine AOps.on rfl rfl ?_
             refine Y (Yields.load_ptr_agg (j := 2) kd28 rfl rfl rfl rfl) rfl ?_
             refine AOps.on rfl rfl ?_
             refine AOps.callro (sisFalse_AF ak an az aks (fun e => (p2 e).1)) rfl rfl rfl ?_
             refine Y (Yields.pick_true rfl rfl) rfl ?_
             refine Y (ass rfl) rfl ?_
             refine AOps.nil ?_
             refine ⟨isB (.mk ak an az aks) 0, ?_, ?_⟩
             ·
              show (isB (.mk ak an az aks) 0) = true ↔ inR12 op (.mk ak an az aks)
              simp [inR12, e1, e3]
             · exact Leads.keepR (KeepR.cons 0 rfl (KeepR.cons 0 rfl (KeepR.cons 0 rfl (KeepR.cons 0 rfl KeepR.nil)))) ⟨rfl, rfl, rfl, rfl, rfl, trivial⟩
            ·
             replace e3 := of_decide_eq_false e3
             refine AOps.off' rfl rfl rfl rfl ?_
             refine AOps.off' rfl rfl rfl rfl ?_
             refine Y (Yields.pick_false rfl rfl) rfl ?_
             refine Y (ass rfl) rfl ?_
             refine AOps.nil ?_
             refine ⟨false, ?_, ?_⟩
             ·
              show false = true ↔ inR12 op (.mk ak an az aks)
              simp [inR12, e1, e3]
             · exact Leads.keepR (KeepR.cons 0 rfl (KeepR.cons 0 rfl (KeepR.cons 0 rfl (KeepR.cons 0 rfl KeepR.nil)))) ⟨rfl, rfl, rfl, rfl, rfl, trivial⟩
          ·
           rintro c12 hinv
           refine AWP.condT rfl (fun k12 => ?_) (fun k12 => ?_)
           ·
            skip
            refine AWP.seq ?_
            refine AWP.region ?_
            refine Y (Yields.load_ptr_agg (j := 3) kd28 rfl rfl rfl rfl) rfl ?_
            refine AOps.store (j := 1) kd28 rfl rfl rfl rfl rfl rfl ?_
            refine Y (ass rfl) rfl ?_
            refine AOps.nil ?_
            refine AWP.ret ⟨.inl rfl, ?_⟩
            exact RetH.of (rs := [.cell 2 28, .tmp 3]) (vs := [_, _]) rfl ⟨resOne.cell (j := 1) rfl rfl kd28 rfl rfl rfl, rfl, trivial⟩ KeepR.nil (⟨by rw [bin12 h8 h9 h10 h11 (hinv.1 k12)]; rfl, rfl⟩)
           ·
            skip
            refine AWP.skip ?_
            refine AWP.seq ?_
            refine AWP.region ?_
            refine Y (Yields.load_ptr_agg (j := 0) kd28 rfl rfl rfl rfl) rfl ?_
            refine AOps.store (j := 1) kd28 rfl rfl rfl rfl rfl rfl ?_
            refine Y (ass rfl) rfl ?_
            refine AOps.nil ?_
            refine AWP.ret ⟨.inl rfl, ?_⟩
            exact RetH.of (rs := [.cell 2 28, .tmp 3]) (vs := [_, _]) rfl ⟨resOne.cell (j := 1) rfl rfl kd28 rfl rfl rfl, rfl, trivial⟩ KeepR.nil (⟨by rw [bin0 h8 h9 h10 h11 (fun e => by rw [hinv.2 e] at k12; cases k12)]; rfl, rfl⟩)
end Go.Proofs.YtccdgppplkfjfaaGreat
