/- Simpler expressions: the rules. -/
import Derived.Test.YtccdgppplkfjfaaGreatSmp2
namespace Go.Proofs.YtccdgppplkfjfaaGreat
open Go Go.Ax Go.Proofs
set_option linter.unusedVariables false
set_option linter.unusedSimpArgs false
set_option maxRecDepth 20000
def simNot : List Tr → Tr → Tr × Int
  | .mk ck cn _ cks :: _, e => if ck = 8 then (cks.headD e, 1) else if ck = 1 then (.mk 1 (1 - cn) ⟨#[]⟩ [], 7) else (e, 0)
  | [], e => (e, 0)
def kidsOf : Tr → List Tr | .mk _ _ _ ks => ks
def kindOf : Tr → Int | .mk k _ _ _ => k
def textOf : Tr → ByteArray | .mk _ _ t _ => t
def simIf : List Tr → Tr → Tr × Int
  | [c, x, y], e => if isB c 1 = true then (x, 2) else if isB c 0 = true then (y, 3) else if isB x 1 = true ∧ isB y 0 = true then (c, 4) else if plainX c = true ∧ sameT x y = true then (x, 5) else if kindOf c = 8 then (.mk 10 0 ⟨#[]⟩ [(kidsOf c).headD e, y, x], 6) else (e, 0)
  | _, e => (e, 0)
def simBin (t : ByteArray) : List Tr → Tr → Tr × Int
  | [a, b], e => binT t a b e
  | _, e => (e, 0)
def simLet (t : ByteArray) : List Tr → Tr → Tr × Int
  | [v, x], e => if kindOf x = 3 ∧ textOf x = t then (v, 13) else if plainX v = true ∧ memB (freeT x) t = false then (x, 14) else (e, 0)
  | _, e => (e, 0)
def simFor (t : ByteArray) : List Tr → Tr → Tr × Int
  | [v, x], e => if kindOf x = 3 ∧ textOf x = t then (v, 15) else (e, 0)
  | _, e => (e, 0)
def simSize : List Tr → Tr → Tr × Int
  | [l], e => if kindOf l = 7 ∧ plainX l = true then (.mk 0 (kidsOf l).length ⟨#[]⟩ [], 16) else (e, 0)
  | _, e => (e, 0)
def simplerT : Tr → Tr × Int
  | .mk kd nm t ks => if kd = 8 then simNot ks (.mk kd nm t ks) else if kd = 10 then simIf ks (.mk kd nm t ks) else if kd = 9 then simBin t ks (.mk kd nm t ks)
    else if kd = 11 then simLet t ks (.mk kd nm t ks) else if kd = 12 then simFor t ks (.mk kd nm t ks) else if kd = 13 then simSize ks (.mk kd nm t ks) else (.mk kd nm t ks, 0)
theorem sT8 (nm : Int) (t : ByteArray) (ks : List Tr) : simplerT (.mk 8 nm t ks) = simNot ks (.mk 8 nm t ks) := rfl
theorem sT10 (nm : Int) (t : ByteArray) (ks : List Tr) : simplerT (.mk 10 nm t ks) = simIf ks (.mk 10 nm t ks) := rfl
theorem sT9 (nm : Int) (t : ByteArray) (ks : List Tr) : simplerT (.mk 9 nm t ks) = simBin t ks (.mk 9 nm t ks) := rfl
theorem sT11 (nm : Int) (t : ByteArray) (ks : List Tr) : simplerT (.mk 11 nm t ks) = simLet t ks (.mk 11 nm t ks) := rfl
theorem sT12 (nm : Int) (t : ByteArray) (ks : List Tr) : simplerT (.mk 12 nm t ks) = simFor t ks (.mk 12 nm t ks) := rfl
theorem sT13 (nm : Int) (t : ByteArray) (ks : List Tr) : simplerT (.mk 13 nm t ks) = simSize ks (.mk 13 nm t ks) := rfl
theorem sT0 {kd nm : Int} {t : ByteArray} {ks : List Tr} (h8 : kd ≠ 8) (h10 : kd ≠ 10) (h9 : kd ≠ 9) (h11 : kd ≠ 11) (h12 : kd ≠ 12) (h13 : kd ≠ 13) : simplerT (.mk kd nm t ks) = (.mk kd nm t ks, 0) := by
  rw [simplerT, if_neg h8, if_neg h10, if_neg h9, if_neg h11, if_neg h12, if_neg h13]
theorem validS_inv2 {k nm : Int} {t : ByteArray} {ks : List Tr} {d : Int} (h : validS (.mk k nm t ks) d = true) : inR k 0 15 = true ∧ textV k t = true ∧ inR nm 0 (mostV k) = true := by
  rw [validS] at h
  split at h
  · cases h
  · rename_i q
    simp only [not_or, Bool.not_eq_false] at q
    exact ⟨q.2.1, q.2.2.1, q.2.2.2.1⟩
theorem okLit_of {k n : Int} {t : ByteArray} {ks : List Tr} {d : Int} (h : validS (.mk k n t ks) d = true) (hb : Tr.bnd 1000000 (.mk k n t ks)) : okLit k n t := by
  obtain ⟨h1, h2, h3⟩ := validS_inv2 h
  have hm : mostV k ≤ 9999 := by unfold mostV; split; omega; split <;> omega
  simp only [inR, Bool.and_eq_true, decide_eq_true_eq] at h1 h3
  refine ⟨fun e => ?_, fun e => ⟨?_, ?_⟩, fun e => ?_, by omega, by omega, hb.1, by omega⟩
  · subst e; simpa [textV] using h2
  · subst e; have : mostV 1 = 1 := rfl; rw [this] at h3; omega
  · subst e; simpa [textV] using h2
  · subst e; have : mostV 2 = 0 := rfl; rw [this] at h3; omega
theorem kids1 {k n : Int} {t : ByteArray} {ks : List Tr} {d : Int} (h : validS (.mk k n t ks) d = true) (hk : k = 8 ∨ k = 13) : ∃ a b c l, ks = [.mk a b c l] := by
  have := (validS_inv h).2.1
  have hl : ks.length = 1 := by rcases hk with rfl | rfl <;> (simp [inR, lowV, highV] at this; omega)
  match ks, hl with
  | [.mk a b c l], _ => exact ⟨a, b, c, l, rfl⟩
theorem kids2 {k n : Int} {t : ByteArray} {ks : List Tr} {d : Int} (h : validS (.mk k n t ks) d = true) (hk : k = 9 ∨ k = 11 ∨ k = 12) : ∃ a b c l a' b' c' l', ks = [.mk a b c l, .mk a' b' c' l'] := by
  have := (validS_inv h).2.1
  have hl : ks.length = 2 := by rcases hk with rfl | rfl | rfl <;> (simp [inR, lowV, highV] at this; omega)
  match ks, hl with
  | [.mk a b c l, .mk a' b' c' l'], _ => exact ⟨a, b, c, l, a', b', c', l', rfl⟩
theorem kids3 {k n : Int} {t : ByteArray} {ks : List Tr} {d : Int} (h : validS (.mk k n t ks) d = true) (hk : k = 10) : ∃ a b c l a' b' c' l' a2 b2 c2 l2, ks = [.mk a b c l, .mk a' b' c' l', .mk a2 b2 c2 l2] := by
  have := (validS_inv h).2.1
  have hl : ks.length = 3 := by subst hk; simp [inR, lowV, highV] at this; omega
  match ks, hl with
  | [.mk a b c l, .mk a' b' c' l', .mk a2 b2 c2 l2], _ => exact ⟨a, b, c, l, a', b', c', l', a2, b2, c2, l2, rfl⟩
theorem ifreeC_AF (k : Tr) (hk : k.bnd 1000000) (hz : sizeT k ≤ 2000000) (d : Int) (hd : 0 ≤ d) (hd2 : d ≤ 100) (hv : validS k d = true) (s : ByteArray) : Fn 46 [k.av, str s] (bool (memB (freeT k) s)) := by
  have fF := ifree_AF k hk hz d hd hd2 hv
  have hl := freeT_length k
  obtain ⟨kd, nm, t, ks⟩ := k
  refine AF.intro Tryz.func46 nm46 rfl rfl rfl rfl fun w0 ok0 => ?_
  refine AWP.seq ?_
  refine AWP.region ?_
  refine AOps.box rfl rfl rfl rfl fun b1 => ?_
  refine Y (ass rfl) rfl ?_
  refine AOps.nil ?_
  refine AWP.seq ?_
  refine AWP.region ?_
  refine Y (Yields.load_ptr_agg (j := 0) kd28 rfl rfl rfl rfl) rfl ?_
  refine AOps.callro (fF) rfl rfl rfl ?_
  refine Y (mv rfl) rfl ?_
  refine AOps.callro (scontains_AF (freeT (.mk kd nm t ks)) s (by omega)) rfl rfl rfl ?_
  refine Y (ass rfl) rfl ?_
  refine AOps.nil ?_
  refine AWP.ret ⟨.inl rfl, ?_⟩
  exact RetIs.oneV rfl rfl (by (rfl) <;> rfl)
theorem simplerBin_AF (kd nm : Int) (op : ByteArray) (ak an : Int) (az : ByteArray) (aks : List Tr) (bk bv : Int) (bs : ByteArray) (bks : List Tr) (ha : okLit ak an az) (hb : okLit bk bv bs) (hop : memB opB op = true) : Fn 45 [Tr.av (.mk kd nm op [.mk ak an az aks, .mk bk bv bs bks])] (.tup [(binT op (.mk ak an az aks) (.mk bk bv bs bks) (.mk kd nm op [.mk ak an az aks, .mk bk bv bs bks])).1.av, int (binT op (.mk ak an az aks) (.mk bk bv bs bks) (.mk kd nm op [.mk ak an az aks, .mk bk bv bs bks])).2]) :=
  AH.toF (by simp [plainL, Tr.plain_av]) (simplerBin_AH kd nm op ak an az aks bk bv bs bks ha hb hop) (fun r hp' h => by obtain ⟨rfl, rfl⟩ := h; exact (Bor.refl (by simp [plainV, plainL, Tr.plain_av])).fz)
theorem simpleBin_AF (kd nm : Int) (op : ByteArray) (ak an : Int) (az : ByteArray) (aks : List Tr) (bk bv : Int) (bs : ByteArray) (bks : List Tr) (ha : okLit ak an az) (hb : okLit bk bv bs) : Fn 36 [Tr.av (.mk kd nm op [.mk ak an az aks, .mk bk bv bs bks])] (.tup [(binT op (.mk ak an az aks) (.mk bk bv bs bks) (.mk kd nm op [.mk ak an az aks, .mk bk bv bs bks])).1.av, int (binT op (.mk ak an az aks) (.mk bk bv bs bks) (.mk kd nm op [.mk ak an az aks, .mk bk bv bs bks])).2]) :=
  AH.toF (by simp [plainL, Tr.plain_av]) (simpleBin_AH kd nm op ak an az aks bk bv bs bks ha hb) (fun r hp' h => by obtain ⟨rfl, rfl⟩ := h; exact (Bor.refl (by simp [plainV, plainL, Tr.plain_av])).fz)
theorem pairElim (v : Tr × Int) {G : Prop} (h : ∀ a b c ks m, v = (.mk a b c ks, m) → G) : G := by
  obtain ⟨⟨a, b, c, ks⟩, m⟩ := v
  exact h a b c ks m rfl
theorem truth_not {n : Int} (h : n = 0 ∨ n = 1) : (if (n == 0) = true then (1 : Int) else 0) = 1 - n := by rcases h with rfl | rfl <;> rfl
theorem isimpler_AH (k : Tr) (d : Int) (hd : 0 ≤ d) (hd2 : d ≤ 90) (hk : k.bnd 1000000) (hz : sizeT k ≤ 2000000) (hv : validS k d = true) : FnH 30 [] [k.av] (simV (simplerT k)) := by
  obtain ⟨kd, nm, t, ks⟩ := k
  obtain ⟨v1, v2, v3⟩ := validS_inv hv
  obtain ⟨v4, v5, v6⟩ := validS_inv2 hv
  obtain ⟨b1', b2', b3'⟩ := hk
  have hz1 := hz
  rw [sizeT] at hz1
  refine AH.intro Tryz.func30 nm30 rfl rfl rfl fun w0 ok0 own0 => ?_
  refine AWP.seq ?_
  refine AWP.region ?_
  refine AOps.box rfl rfl rfl rfl fun b1 => ?_
  refine AOps.alloc rfl z28 rfl rfl fun b2 => ?_
  refine Y (ass rfl) rfl ?_
  refine AOps.nil ?_
  refine AWP.seq ?_
  refine AWP.region ?_
  refine Y (Yields.fieldAddr_ptr fo28_3 rfl) rfl ?_
  refine Y (Yields.load_ptr_field (j := 1) kd26 rfl rfl rfl rfl rfl rfl rfl) rfl ?_
  refine Y (ass rfl) rfl ?_
  refine AOps.nil ?_
  refine AWP.seq ?_
  refine AWP.seq ?_
  refine AWP.region ?_
  refine Y (Yields.fieldAddr_ptr fo28_0 rfl) rfl ?_
  refine Y (Yields.load_ptr_field (j := 1) kd3 rfl rfl rfl rfl rfl rfl rfl) rfl ?_
  refine AOps.nil ?_
  refine AWP.block ?_
  refine AWP.seq ?_
  refine AWP.region ?_
  refine Y (bn rfl rfl BinR.eql rfl) rfl ?_
  refine Y (ass rfl) rfl ?_
  refine AOps.nil ?_
  refine AWP.condT rfl (fun c8 => ?_) (fun c8 => ?_)
  ·
   replace c8 := eq_of_beq c8
   subst c8
   obtain ⟨ck, cn, ct, cks, rfl⟩ := kids1 hv (.inl rfl)
   have hc := validSs_get (i := 0) v3 rfl
   have hcb := Tr.bnds_get (i := 0) b3' rfl
   have ho := okLit_of hc hcb
   refine AWP.seq ?_
   refine AWP.seq ?_
   refine AWP.region ?_
   refine Y (mv rfl) rfl ?_
   refine Y (Yields.idx_roN sl26 rfl rfl rfl (j := 0) rfl (by simp [Tr.avs])) rfl ?_
   refine Y (Yields.fieldAddr_rop fo28_0 rfl) rfl ?_
   refine Y (Yields.load_rop_field kd3 rfl rfl rfl rfl rfl) rfl ?_
   refine Y (bn rfl rfl BinR.eql rfl) rfl ?_
   refine AOps.nil ?_
   refine AWP.condT rfl (fun d1 => ?_) (fun d1 => ?_)
   ·
    replace d1 := eq_of_beq d1
    subst d1
    obtain ⟨xk, xn, xt, xks, rfl⟩ := kids1 hc (.inl rfl)
    refine AWP.seq ?_
    refine AWP.region ?_
    refine Y (mv rfl) rfl ?_
    refine Y (Yields.idx_roN sl26 rfl rfl rfl (j := 0) rfl (by simp [Tr.avs])) rfl ?_
    refine Y (Yields.fieldAddr_rop fo28_3 rfl) rfl ?_
    refine Y (Yields.load_rop_field kd26 rfl rfl rfl rfl rfl) rfl ?_
    refine Y (Yields.idx_roN sl26 rfl rfl rfl (j := 0) rfl (by simp [Tr.avs])) rfl ?_
    refine Y (Yields.load_rop_aggV kd28 rfl rfl rfl) rfl ?_
    refine AOps.store (j := 0) kd28 rfl rfl rfl rfl rfl rfl ?_
    refine Y (ass rfl) rfl ?_
    refine AOps.nil ?_
    refine AWP.ret ⟨.inl rfl, ?_⟩
    exact RetH.of (rs := [.cell 2 28, .tmp 3]) (vs := [_, _]) rfl ⟨resOne.cell (j := 0) rfl rfl kd28 rfl rfl rfl, rfl, trivial⟩ KeepR.nil (⟨rfl, rfl⟩)
   ·
    replace d1 := ne_of_beq_false d1
    refine AWP.skip ?_
    refine AWP.seq ?_
    refine AWP.region ?_
    refine Y (mv rfl) rfl ?_
    refine Y (Yields.idx_roN sl26 rfl rfl rfl (j := 0) rfl (by simp [Tr.avs])) rfl ?_
    refine Y (Yields.fieldAddr_rop fo28_0 rfl) rfl ?_
    refine Y (Yields.load_rop_field kd3 rfl rfl rfl rfl rfl) rfl ?_
    refine Y (bn rfl rfl BinR.eql rfl) rfl ?_
    refine AOps.nil ?_
    refine AWP.condT rfl (fun d2 => ?_) (fun d2 => ?_)
    ·
     replace d2 := eq_of_beq d2
     subst d2
     refine AWP.seq ?_
     refine AWP.region ?_
     refine Y (mv rfl) rfl ?_
     refine Y (Yields.idx_roN sl26 rfl rfl rfl (j := 0) rfl (by simp [Tr.avs])) rfl ?_
     refine Y (Yields.fieldAddr_rop fo28_1 rfl) rfl ?_
     refine Y (Yields.load_rop_field kd3 rfl rfl rfl rfl rfl) rfl ?_
     refine Y (bn rfl rfl BinR.eql rfl) rfl ?_
     refine AOps.callro (truthOf_AF (cn == 0)) rfl rfl rfl ?_
     refine AOps.store (j := 0) kd28 rfl rfl rfl rfl rfl rfl ?_
     refine Y (ass rfl) rfl ?_
     refine AOps.nil ?_
     refine AWP.ret ⟨.inl rfl, ?_⟩
     exact RetH.of (rs := [.cell 2 28, .tmp 3]) (vs := [_, _]) rfl ⟨resOne.cell (j := 0) rfl rfl kd28 rfl rfl rfl, rfl, trivial⟩ KeepR.nil (⟨by rw [truth_not (ho.2.1 rfl).1]; rfl, rfl⟩)
    ·
     replace d2 := ne_of_beq_false d2
     refine AWP.skip ?_
     refine AWP.seq ?_
     refine AWP.region ?_
     refine Y (Yields.load_ptr_agg (j := 1) kd28 rfl rfl rfl rfl) rfl ?_
     refine AOps.store (j := 0) kd28 rfl rfl rfl rfl rfl rfl ?_
     refine Y (ass rfl) rfl ?_
     refine AOps.nil ?_
     refine AWP.ret ⟨.inl rfl, ?_⟩
     exact RetH.of (rs := [.cell 2 28, .tmp 3]) (vs := [_, _]) rfl ⟨resOne.cell (j := 0) rfl rfl kd28 rfl rfl rfl, rfl, trivial⟩ KeepR.nil (⟨by rw [sT8, simNot, if_neg d1, if_neg d2]; rfl, rfl⟩)
  ·
   replace c8 := ne_of_beq_false c8
   refine AWP.seq ?_
   refine AWP.region ?_
   refine Y (bn rfl rfl BinR.eql rfl) rfl ?_
   refine Y (ass rfl) rfl ?_
   refine AOps.nil ?_
   refine AWP.condT rfl (fun c10 => ?_) (fun c10 => ?_)
   ·
    replace c10 := eq_of_beq c10
    subst c10
    obtain ⟨ck, cn, ct, cks, xk, xn, xt, xks, yk, yn, yt, yks, rfl⟩ := kids3 hv rfl
    have hc := validSs_get (i := 0) v3 rfl
    have hcb := Tr.bnds_get (i := 0) b3' rfl
    have hxb := Tr.bnds_get (i := 1) b3' rfl
    refine AWP.block ?_
    refine AWP.seq ?_
    refine AWP.region ?_
    refine Y (mv rfl) rfl ?_
    refine Y (Yields.idx_roN sl26 rfl rfl rfl (j := 0) rfl (by simp [Tr.avs])) rfl ?_
    refine Y (Yields.load_rop_aggV kd28 rfl rfl rfl) rfl ?_
    refine AOps.callro (iisBool_AF ck cn ct cks 1) rfl rfl rfl ?_
    refine Y (ass rfl) rfl ?_
    refine AOps.nil ?_
    refine AWP.condT rfl (fun e1 => ?_) (fun e1 => ?_)
    ·
     skip
     refine AWP.seq ?_
     refine AWP.region ?_
     refine Y (mv rfl) rfl ?_
     refine Y (Yields.idx_roN sl26 rfl rfl rfl (j := 1) rfl (by simp [Tr.avs])) rfl ?_
     refine Y (Yields.load_rop_aggV kd28 rfl rfl rfl) rfl ?_
     refine AOps.store (j := 0) kd28 rfl rfl rfl rfl rfl rfl ?_
     refine Y (ass rfl) rfl ?_
     refine AOps.nil ?_
     refine AWP.ret ⟨.inl rfl, ?_⟩
     exact RetH.of (rs := [.cell 2 28, .tmp 3]) (vs := [_, _]) rfl ⟨resOne.cell (j := 0) rfl rfl kd28 rfl rfl rfl, rfl, trivial⟩ KeepR.nil (⟨by rw [sT10, simIf, if_pos e1]; rfl, rfl⟩)
    ·
     skip
     refine AWP.seq ?_
     refine AWP.region ?_
     refine Y (mv rfl) rfl ?_
     refine Y (Yields.idx_roN sl26 rfl rfl rfl (j := 0) rfl (by simp [Tr.avs])) rfl ?_
     refine Y (Yields.load_rop_aggV kd28 rfl rfl rfl) rfl ?_
     refine AOps.callro (iisBool_AF ck cn ct cks 0) rfl rfl rfl ?_
     refine Y (ass rfl) rfl ?_
     refine AOps.nil ?_
     refine AWP.condT rfl (fun e2 => ?_) (fun e2 => ?_)
     ·
      skip
      refine AWP.seq ?_
      refine AWP.region ?_
      refine Y (mv rfl) rfl ?_
      refine Y (Yields.idx_roN sl26 rfl rfl rfl (j := 2) rfl (by simp [Tr.avs])) rfl ?_
      refine Y (Yields.load_rop_aggV kd28 rfl rfl rfl) rfl ?_
      refine AOps.store (j := 0) kd28 rfl rfl rfl rfl rfl rfl ?_
      refine Y (ass rfl) rfl ?_
      refine AOps.nil ?_
      refine AWP.ret ⟨.inl rfl, ?_⟩
      exact RetH.of (rs := [.cell 2 28, .tmp 3]) (vs := [_, _]) rfl ⟨resOne.cell (j := 0) rfl rfl kd28 rfl rfl rfl, rfl, trivial⟩ KeepR.nil (⟨by rw [sT10, simIf, if_neg (by rw [e1]; simp), if_pos e2]; rfl, rfl⟩)
     ·
      skip
      refine AWP.midE (α := Bool) (fun f3 : Bool => ⟨[(1, .ptr (some b1) 0 0 4), (2, .ptr (some b2) 0 0 4), (4, .ro 4 (Tr.avs [(.mk ck cn ct cks), (.mk xk xn xt xks), (.mk yk yn yt yks)]) [] false), (51, bool f3)], [(some b1, ⟨4, [Tr.av (.mk 10 nm t [(.mk ck cn ct cks), (.mk xk xn xt xks), (.mk yk yn yt yks)])]⟩), (some b2, ⟨4, [zero4]⟩)]⟩) (fun f3 : Bool => f3 = true ↔ isB (.mk xk xn xt xks) 1 = true ∧ isB (.mk yk yn yt yks) 0 = true) ?_ ?_
      ·
       skip
       refine AWP.region ?_
       refine Y (mv rfl) rfl ?_
       refine Y (Yields.idx_roN sl26 rfl rfl rfl (j := 1) rfl (by simp [Tr.avs])) rfl ?_
       refine Y (Yields.load_rop_aggV kd28 rfl rfl rfl) rfl ?_
       refine AOps.callro (iisBool_AF xk xn xt xks 1) rfl rfl rfl ?_
       refine Y (mv rfl) rfl ?_
       refine AOps.split 56 rfl (fun g1 => ?_) (fun g1 => ?_)
       ·
        skip
        refine AOps.on rfl rfl ?_
        refine Y (mv rfl) rfl ?_
        refine AOps.on rfl rfl ?_
        refine Y (Yields.idx_roN sl26 rfl rfl rfl (j := 2) rfl (by simp [Tr.avs])) rfl ?_
        refine AOps.on rfl rfl ?_
        refine Y (Yields.load_rop_aggV kd28 rfl rfl rfl) rfl ?_
        refine AOps.on rfl rfl ?_
        refine AOps.callro (iisBool_AF yk yn yt yks 0) rfl rfl rfl ?_
        refine Y (Yields.pick_true rfl rfl) rfl ?_
        refine Y (ass rfl) rfl ?_
        refine AOps.nil ?_
        refine ⟨isB (.mk yk yn yt yks) 0, ?_, ?_⟩
        ·
         show (isB (.mk yk yn yt yks) 0) = true ↔ isB (.mk xk xn xt xks) 1 = true ∧ isB (.mk yk yn yt yks) 0 = true
         simp [g1]
        · exact Leads.keepR (KeepR.cons 1 rfl (KeepR.cons 0 rfl KeepR.nil)) ⟨rfl, rfl, rfl, rfl, trivial⟩
       ·
        skip
        refine AOps.off' rfl rfl rfl rfl ?_
        refine AOps.off' rfl rfl rfl rfl ?_
        refine AOps.off' rfl rfl rfl rfl ?_
        refine AOps.off' rfl rfl rfl rfl ?_
        refine Y (Yields.pick_false rfl rfl) rfl ?_
        refine Y (ass rfl) rfl ?_
        refine AOps.nil ?_
        refine ⟨false, ?_, ?_⟩
        ·
         show false = true ↔ isB (.mk xk xn xt xks) 1 = true ∧ isB (.mk yk yn yt yks) 0 = true
         simp [g1]
        · exact Leads.keepR (KeepR.cons 1 rfl (KeepR.cons 0 rfl KeepR.nil)) ⟨rfl, rfl, rfl, rfl, trivial⟩
      ·
       rintro f3 hinv
       refine AWP.condT rfl (fun e3 => ?_) (fun e3 => ?_)
       ·
        skip
        refine AWP.seq ?_
        refine AWP.region ?_
        refine Y (mv rfl) rfl ?_
        refine Y (Yields.idx_roN sl26 rfl rfl rfl (j := 0) rfl (by simp [Tr.avs])) rfl ?_
        refine Y (Yields.load_rop_aggV kd28 rfl rfl rfl) rfl ?_
        refine AOps.store (j := 1) kd28 rfl rfl rfl rfl rfl rfl ?_
        refine Y (ass rfl) rfl ?_
        refine AOps.nil ?_
        refine AWP.ret ⟨.inl rfl, ?_⟩
        exact RetH.of (rs := [.cell 2 28, .tmp 3]) (vs := [_, _]) rfl ⟨resOne.cell (j := 1) rfl rfl kd28 rfl rfl rfl, rfl, trivial⟩ KeepR.nil (⟨by rw [sT10, simIf, if_neg (by rw [e1]; simp), if_neg (by rw [e2]; simp), if_pos (hinv.1 e3)]; rfl, rfl⟩)
       ·
        skip
        have e3' : ¬ (isB (.mk xk xn xt xks) 1 = true ∧ isB (.mk yk yn yt yks) 0 = true) := fun q => by rw [hinv.2 q] at e3; cases e3
        refine AWP.midE (α := Bool) (fun f4 : Bool => ⟨[(1, .ptr (some b1) 0 0 4), (2, .ptr (some b2) 0 0 4), (4, .ro 4 (Tr.avs [(.mk ck cn ct cks), (.mk xk xn xt xks), (.mk yk yn yt yks)]) [] false), (65, bool f4)], [(some b1, ⟨4, [Tr.av (.mk 10 nm t [(.mk ck cn ct cks), (.mk xk xn xt xks), (.mk yk yn yt yks)])]⟩), (some b2, ⟨4, [zero4]⟩)]⟩) (fun f4 : Bool => f4 = true ↔ plainX (.mk ck cn ct cks) = true ∧ sameT (.mk xk xn xt xks) (.mk yk yn yt yks) = true) ?_ ?_
        ·
         skip
         refine AWP.prune (tm' := [(1, _), (2, _), (4, _), (51, _)]) ⟨rfl, rfl, rfl, rfl, trivial⟩ ?_
         refine AWP.drawn mixed rfl rfl ?_
         refine D (tm' := [(4, _)]) ⟨rfl, trivial⟩ (DStep.yields (mv rfl)) rfl ?_
         refine D (tm' := [(66, _)]) ⟨rfl, trivial⟩ (DStep.yields (Yields.idx_roN sl26 rfl rfl rfl (j := 0) rfl (by simp [Tr.avs]))) rfl ?_
         refine D (tm' := [(67, _)]) ⟨rfl, trivial⟩ (DStep.yields (Yields.load_rop_aggV kd28 rfl rfl rfl)) rfl ?_
         refine D (tm' := [(68, _)]) ⟨rfl, trivial⟩ (DStep.callro (iplain_AF (.mk ck cn ct cks) hcb) rfl rfl) rfl ?_
         refine D (tm' := [(69, _)]) ⟨rfl, trivial⟩ (DStep.yields (mv rfl)) rfl ?_
         refine DOps.split 4 rfl (fun g1 => ?_) (fun g1 => ?_)
         ·
          skip
          refine DOps.on rfl rfl ?_
          refine D (tm' := [(4, _)]) ⟨rfl, trivial⟩ (DStep.yields (mv rfl)) rfl ?_
          refine DOps.on rfl rfl ?_
          refine D (tm' := [(71, _)]) ⟨rfl, trivial⟩ (DStep.yields (Yields.idx_roN sl26 rfl rfl rfl (j := 1) rfl (by simp [Tr.avs]))) rfl ?_
          refine DOps.on rfl rfl ?_
          refine D (tm' := [(72, _)]) ⟨rfl, trivial⟩ (DStep.yields (Yields.load_rop_aggV kd28 rfl rfl rfl)) rfl ?_
          refine DOps.on rfl rfl ?_
          refine D (tm' := [(4, _)]) ⟨rfl, trivial⟩ (DStep.yields (mv rfl)) rfl ?_
          refine DOps.on rfl rfl ?_
          refine D (tm' := [(74, _)]) ⟨rfl, trivial⟩ (DStep.yields (Yields.idx_roN sl26 rfl rfl rfl (j := 2) rfl (by simp [Tr.avs]))) rfl ?_
          refine DOps.on rfl rfl ?_
          refine D (tm' := [(75, _)]) ⟨rfl, trivial⟩ (DStep.yields (Yields.load_rop_aggV kd28 rfl rfl rfl)) rfl ?_
          refine DOps.on rfl rfl ?_
          refine D (tm' := [(73, _), (76, _)]) ⟨rfl, rfl, trivial⟩ (DStep.callro (isame_AFExpr (.mk xk xn xt xks) (.mk yk yn yt yks) hxb) rfl rfl) rfl ?_
          refine D (tm' := [(70, _), (77, _)]) ⟨rfl, rfl, trivial⟩ (DStep.yields (Yields.pick_true rfl rfl)) rfl ?_
          refine D (tm' := [(78, _)]) ⟨rfl, trivial⟩ (DStep.yields (ass rfl)) rfl ?_
          refine DOps.nil ?_
          refine ⟨sameT (.mk xk xn xt xks) (.mk yk yn yt yks), ?_, ?_⟩
          ·
           show (sameT (.mk xk xn xt xks) (.mk yk yn yt yks)) = true ↔ plainX (.mk ck cn ct cks) = true ∧ sameT (.mk xk xn xt xks) (.mk yk yn yt yks) = true
           simp [g1]
          · exact Leads.keepR (KeepR.cons 0 rfl (KeepR.cons 0 rfl KeepR.nil)) ⟨rfl, rfl, rfl, rfl, trivial⟩
         ·
          skip
          refine DOps.off rfl rfl rfl rfl ?_
          refine DOps.off rfl rfl rfl rfl ?_
          refine DOps.off rfl rfl rfl rfl ?_
          refine DOps.off rfl rfl rfl rfl ?_
          refine DOps.off rfl rfl rfl rfl ?_
          refine DOps.off rfl rfl rfl rfl ?_
          refine DOps.off rfl rfl rfl rfl ?_
          refine D (tm' := [(70, _), (77, _)]) ⟨rfl, rfl, trivial⟩ (DStep.yields (Yields.pick_false rfl rfl)) rfl ?_
          refine D (tm' := [(78, _)]) ⟨rfl, trivial⟩ (DStep.yields (ass rfl)) rfl ?_
          refine DOps.nil ?_
          refine ⟨false, ?_, ?_⟩
          ·
           show false = true ↔ plainX (.mk ck cn ct cks) = true ∧ sameT (.mk xk xn xt xks) (.mk yk yn yt yks) = true
           simp [g1]
          · exact Leads.keepR (KeepR.cons 0 rfl (KeepR.cons 0 rfl KeepR.nil)) ⟨rfl, rfl, rfl, rfl, trivial⟩
        ·
         rintro f4 hinv
         refine AWP.condT rfl (fun e4 => ?_) (fun e4 => ?_)
         ·
          skip
          refine AWP.seq ?_
          refine AWP.region ?_
          refine Y (mv rfl) rfl ?_
          refine Y (Yields.idx_roN sl26 rfl rfl rfl (j := 1) rfl (by simp [Tr.avs])) rfl ?_
          refine Y (Yields.load_rop_aggV kd28 rfl rfl rfl) rfl ?_
          refine AOps.store (j := 1) kd28 rfl rfl rfl rfl rfl rfl ?_
          refine Y (ass rfl) rfl ?_
          refine AOps.nil ?_
          refine AWP.ret ⟨.inl rfl, ?_⟩
          exact RetH.of (rs := [.cell 2 28, .tmp 3]) (vs := [_, _]) rfl ⟨resOne.cell (j := 1) rfl rfl kd28 rfl rfl rfl, rfl, trivial⟩ KeepR.nil (⟨by rw [sT10, simIf, if_neg (by rw [e1]; simp), if_neg (by rw [e2]; simp), if_neg e3', if_pos (hinv.1 e4)]; rfl, rfl⟩)
         ·
          skip
          have e4' : ¬ (plainX (.mk ck cn ct cks) = true ∧ sameT (.mk xk xn xt xks) (.mk yk yn yt yks) = true) := fun q => by rw [hinv.2 q] at e4; cases e4
          refine AWP.seq ?_
          refine AWP.region ?_
          refine Y (mv rfl) rfl ?_
          refine Y (Yields.idx_roN sl26 rfl rfl rfl (j := 0) rfl (by simp [Tr.avs])) rfl ?_
          refine Y (Yields.fieldAddr_rop fo28_0 rfl) rfl ?_
          refine Y (Yields.load_rop_field kd3 rfl rfl rfl rfl rfl) rfl ?_
          refine Y (bn rfl rfl BinR.eql rfl) rfl ?_
          refine Y (ass rfl) rfl ?_
          refine AOps.nil ?_
          refine AWP.condT rfl (fun e5 => ?_) (fun e5 => ?_)
          ·
           replace e5 := eq_of_beq e5
           subst e5
           obtain ⟨zk, zn, zt, zks, rfl⟩ := kids1 hc (.inl rfl)
           refine AWP.seq ?_
           refine AWP.prune (tm' := [(1, _), (2, _), (4, _), (65, _), (82, _)]) ⟨rfl, rfl, rfl, rfl, rfl, trivial⟩ ?_
           refine AWP.drawnM [] [.pure 0, .pure 1, .pure 2, .pure 3, .pure 4, .pure 5, .pure 6, .pure 7, .pure 8, .pure 9, .pure 10, .pure 11, .pure 12, .pure 13, .spine 14 [] [0, 1, 2, 3, 4, 5, 6, 7, 8, 9, 10, 11, 12, 13], .pure 15] mixed rfl rfl rfl rfl rfl ?_
           refine DM.pure (GX (tm' := [(4, _)]) rfl ⟨rfl, trivial⟩ rfl (DStep.yields (mv rfl)) rfl) ?_
           refine DM.pure (GX (tm' := [(88, _)]) rfl ⟨rfl, trivial⟩ rfl (DStep.yields (Yields.idx_roN sl26 rfl rfl rfl (j := 0) rfl (by simp [Tr.avs]))) rfl) ?_
           refine DM.pure (GX (tm' := [(89, _)]) rfl ⟨rfl, trivial⟩ rfl (DStep.yields (Yields.fieldAddr_rop fo28_3 rfl)) rfl) ?_
           refine DM.pure (GX (tm' := [(90, _)]) rfl ⟨rfl, trivial⟩ rfl (DStep.yields (Yields.load_rop_field kd26 rfl rfl rfl rfl rfl)) rfl) ?_
           refine DM.pure (GX (tm' := [(91, _)]) rfl ⟨rfl, trivial⟩ rfl (DStep.yields (Yields.idx_roN sl26 rfl rfl rfl (j := 0) rfl (by simp [Tr.avs]))) rfl) ?_
           refine DM.pure (GX (tm' := [(92, _)]) rfl ⟨rfl, trivial⟩ rfl (DStep.yields (Yields.load_rop_aggV kd28 rfl rfl rfl)) rfl) ?_
           refine DM.pure (GX (tm' := [(4, _)]) rfl ⟨rfl, trivial⟩ rfl (DStep.yields (mv rfl)) rfl) ?_
           refine DM.pure (GX (tm' := [(94, _)]) rfl ⟨rfl, trivial⟩ rfl (DStep.yields (Yields.idx_roN sl26 rfl rfl rfl (j := 2) rfl (by simp [Tr.avs]))) rfl) ?_
           refine DM.pure (GX (tm' := [(95, _)]) rfl ⟨rfl, trivial⟩ rfl (DStep.yields (Yields.load_rop_aggV kd28 rfl rfl rfl)) rfl) ?_
           refine DM.pure (GX (tm' := [(4, _)]) rfl ⟨rfl, trivial⟩ rfl (DStep.yields (mv rfl)) rfl) ?_
           refine DM.pure (GX (tm' := [(97, _)]) rfl ⟨rfl, trivial⟩ rfl (DStep.yields (Yields.idx_roN sl26 rfl rfl rfl (j := 1) rfl (by simp [Tr.avs]))) rfl) ?_
           refine DM.pure (GX (tm' := [(98, _)]) rfl ⟨rfl, trivial⟩ rfl (DStep.yields (Yields.load_rop_aggV kd28 rfl rfl rfl)) rfl) ?_
           refine DM.pure (GX (tm' := [(93, _), (96, _), (99, _)]) rfl ⟨rfl, rfl, rfl, trivial⟩ rfl (DStep.buildRo sl26 z28 rfl rfl rfl rfl) rfl) ?_
           refine DM.pure (GX (tm' := [(100, _)]) rfl ⟨rfl, trivial⟩ rfl (DStep.yields (Yields.build pl28 z28 rfl rfl)) rfl) ?_
           refine DM.sp rfl rfl ?_
           refine DOpen.nil fun _ _ _ => ?_
           refine AOps.subT (tm' := [(2, _), (101, _)]) ⟨rfl, rfl, trivial⟩ ?_
           refine AOps.store (j := 1) kd28 rfl rfl rfl rfl rfl rfl ?_
           refine AOps.nil ?_
           refine SpK.mk0 (Stab.all rfl) ?_
           refine DM.pure (GX (tm' := []) rfl trivial rfl (DStep.yields (ass rfl)) rfl) ?_
           refine DM.nil ?_
           refine AWP.ret ⟨.inl rfl, ?_⟩
           exact RetH.of (rs := [.cell 2 28, .tmp 3]) (vs := [_, _]) rfl ⟨resOne.cell (j := 1) rfl rfl kd28 rfl rfl rfl, rfl, trivial⟩ KeepR.nil (⟨by rw [sT10, simIf, if_neg (by rw [e1]; simp), if_neg (by rw [e2]; simp), if_neg e3', if_neg e4']; rfl, rfl⟩)
          ·
           replace e5 := ne_of_beq_false e5
           refine AWP.skip ?_
           refine AWP.seq ?_
           refine AWP.region ?_
           refine Y (Yields.load_ptr_agg (j := 0) kd28 rfl rfl rfl rfl) rfl ?_
           refine AOps.store (j := 1) kd28 rfl rfl rfl rfl rfl rfl ?_
           refine Y (ass rfl) rfl ?_
           refine AOps.nil ?_
           refine AWP.ret ⟨.inl rfl, ?_⟩
           exact RetH.of (rs := [.cell 2 28, .tmp 3]) (vs := [_, _]) rfl ⟨resOne.cell (j := 1) rfl rfl kd28 rfl rfl rfl, rfl, trivial⟩ KeepR.nil (⟨by rw [sT10, simIf, if_neg (by rw [e1]; simp), if_neg (by rw [e2]; simp), if_neg e3', if_neg e4', if_neg (show ¬ kindOf (.mk ck cn ct cks) = 8 from e5)]; rfl, rfl⟩)
   ·
    replace c10 := ne_of_beq_false c10
    refine AWP.seq ?_
    refine AWP.region ?_
    refine Y (bn rfl rfl BinR.eql rfl) rfl ?_
    refine Y (ass rfl) rfl ?_
    refine AOps.nil ?_
    refine AWP.condT rfl (fun c9 => ?_) (fun c9 => ?_)
    ·
     replace c9 := eq_of_beq c9
     subst c9
     obtain ⟨ak, an, az, aks, bk, bv, bs, bks, rfl⟩ := kids2 hv (.inl rfl)
     have bF := simplerBin_AF 9 nm t ak an az aks bk bv bs bks (okLit_of (validSs_get (i := 0) v3 rfl) (Tr.bnds_get (i := 0) b3' rfl)) (okLit_of (validSs_get (i := 1) v3 rfl) (Tr.bnds_get (i := 1) b3' rfl)) v5
     refine pairElim (binT t (.mk ak an az aks) (.mk bk bv bs bks) (.mk 9 nm t [.mk ak an az aks, .mk bk bv bs bks])) fun zk zn zt zks m hzz => ?_
     rw [hzz] at bF
     refine AWP.seq ?_
     refine AWP.region ?_
     refine Y (Yields.load_ptr_agg (j := 1) kd28 rfl rfl rfl rfl) rfl ?_
     refine AOps.callro (bF) rfl rfl rfl ?_
     refine Y (Yields.extract rfl rfl) rfl ?_
     refine Y (Yields.extract rfl rfl) rfl ?_
     refine AOps.store (j := 0) kd28 rfl rfl rfl rfl rfl rfl ?_
     refine Y (ass rfl) rfl ?_
     refine AOps.nil ?_
     refine AWP.ret ⟨.inl rfl, ?_⟩
     exact RetH.of (rs := [.cell 2 28, .tmp 3]) (vs := [_, _]) rfl ⟨resOne.cell (j := 0) rfl rfl kd28 rfl rfl rfl, rfl, trivial⟩ KeepR.nil (⟨by rw [sT9, simBin, hzz]; rfl, rfl⟩)
    ·
     replace c9 := ne_of_beq_false c9
     refine AWP.seq ?_
     refine AWP.region ?_
     refine Y (bn rfl rfl BinR.eql rfl) rfl ?_
     refine Y (ass rfl) rfl ?_
     refine AOps.nil ?_
     refine AWP.condT rfl (fun c11 => ?_) (fun c11 => ?_)
     ·
      replace c11 := eq_of_beq c11
      subst c11
      obtain ⟨ck, cn, ct, cks, xk, xn, xt, xks, rfl⟩ := kids2 hv (.inr (.inl rfl))
      have hcb := Tr.bnds_get (i := 0) b3' rfl
      have hxb := Tr.bnds_get (i := 1) b3' rfl
      have hx := validSs_get (i := 1) v3 rfl
      simp only [sizeTs] at hz1
      have hcp := sizeT_pos (.mk ck cn ct cks)
      refine AWP.seq ?_
      refine AWP.seq ?_
      refine AWP.prune (tm' := [(0, _), (1, _), (2, _), (3, _), (4, _), (8, _), (9, _), (33, _), (102, _), (108, _)]) ⟨rfl, rfl, rfl, rfl, rfl, rfl, rfl, rfl, rfl, rfl, trivial⟩ ?_
      refine AWP.drawn mixed rfl rfl ?_
      refine D (tm' := [(4, _)]) ⟨rfl, trivial⟩ (DStep.yields (mv rfl)) rfl ?_
      refine D (tm' := [(110, _)]) ⟨rfl, trivial⟩ (DStep.yields (Yields.idx_roN sl26 rfl rfl rfl (j := 1) rfl (by simp [Tr.avs]))) rfl ?_
      refine D (tm' := [(111, _)]) ⟨rfl, trivial⟩ (DStep.yields (Yields.fieldAddr_rop fo28_0 rfl)) rfl ?_
      refine D (tm' := [(112, _)]) ⟨rfl, trivial⟩ (DStep.yields (Yields.load_rop_field kd3 rfl rfl rfl rfl rfl)) rfl ?_
      refine D (tm' := [(113, _)]) ⟨rfl, trivial⟩ (DStep.yields (bn rfl rfl BinR.eql rfl)) rfl ?_
      refine D (tm' := [(114, _)]) ⟨rfl, trivial⟩ (DStep.yields (mv rfl)) rfl ?_
      refine DOps.split 5 rfl (fun g1 => ?_) (fun g1 => ?_)
      ·
       replace g1 := eq_of_beq g1
       refine DOps.on rfl rfl ?_
       refine D (tm' := [(4, _)]) ⟨rfl, trivial⟩ (DStep.yields (mv rfl)) rfl ?_
       refine DOps.on rfl rfl ?_
       refine D (tm' := [(116, _)]) ⟨rfl, trivial⟩ (DStep.yields (Yields.idx_roN sl26 rfl rfl rfl (j := 1) rfl (by simp [Tr.avs]))) rfl ?_
       refine DOps.on rfl rfl ?_
       refine D (tm' := [(117, _)]) ⟨rfl, trivial⟩ (DStep.yields (Yields.fieldAddr_rop fo28_2 rfl)) rfl ?_
       refine DOps.on rfl rfl ?_
       refine D (tm' := [(118, _)]) ⟨rfl, trivial⟩ (DStep.yields (Yields.load_rop_field kd9 rfl rfl rfl rfl rfl)) rfl ?_
       refine DOps.on rfl rfl ?_
       refine D (tm' := [(1, _)]) ⟨rfl, trivial⟩ (DStep.yields (Yields.fieldAddr_ptr fo28_2 rfl)) rfl ?_
       refine DOps.on rfl rfl ?_
       refine D (tm' := [(120, _)]) ⟨rfl, trivial⟩ (DStep.yields (Yields.load_ptr_field (j := 1) kd9 rfl rfl rfl rfl rfl rfl rfl)) rfl ?_
       refine DOps.on rfl rfl ?_
       refine D (tm' := [(119, _), (121, _)]) ⟨rfl, rfl, trivial⟩ (DStep.yields (bn rfl rfl BinR.seql rfl)) rfl ?_
       refine D (tm' := [(115, _), (122, _)]) ⟨rfl, rfl, trivial⟩ (DStep.yields (Yields.pick_true rfl rfl)) rfl ?_
       refine DOps.nil ?_
       refine AWP.condT rfl (fun g2 => ?_) (fun g2 => ?_)
       ·
        replace g2 := of_decide_eq_true g2
        refine AWP.seq ?_
        refine AWP.region ?_
        refine Y (mv rfl) rfl ?_
        refine Y (Yields.idx_roN sl26 rfl rfl rfl (j := 0) rfl (by simp [Tr.avs])) rfl ?_
        refine Y (Yields.load_rop_aggV kd28 rfl rfl rfl) rfl ?_
        refine AOps.store (j := 0) kd28 rfl rfl rfl rfl rfl rfl ?_
        refine Y (ass rfl) rfl ?_
        refine AOps.nil ?_
        refine AWP.ret ⟨.inl rfl, ?_⟩
        exact RetH.of (rs := [.cell 2 28, .tmp 3]) (vs := [_, _]) rfl ⟨resOne.cell (j := 0) rfl rfl kd28 rfl rfl rfl, rfl, trivial⟩ KeepR.nil (⟨by rw [sT11, simLet, if_pos ⟨g1, g2⟩]; rfl, rfl⟩)
       ·
        replace g2 := of_decide_eq_false g2
        refine AWP.skip ?_
        refine AWP.seq ?_
        refine AWP.prune (tm' := [(0, _), (1, _), (2, _), (3, _), (4, _), (8, _), (9, _), (33, _), (102, _), (108, _), (123, _)]) ⟨rfl, rfl, rfl, rfl, rfl, rfl, rfl, rfl, rfl, rfl, rfl, trivial⟩ ?_
        refine AWP.drawn mixed rfl rfl ?_
        refine D (tm' := [(4, _)]) ⟨rfl, trivial⟩ (DStep.yields (mv rfl)) rfl ?_
        refine D (tm' := [(127, _)]) ⟨rfl, trivial⟩ (DStep.yields (Yields.idx_roN sl26 rfl rfl rfl (j := 0) rfl (by simp [Tr.avs]))) rfl ?_
        refine D (tm' := [(128, _)]) ⟨rfl, trivial⟩ (DStep.yields (Yields.load_rop_aggV kd28 rfl rfl rfl)) rfl ?_
        refine D (tm' := [(129, _)]) ⟨rfl, trivial⟩ (DStep.callro (iplain_AF (.mk ck cn ct cks) hcb) rfl rfl) rfl ?_
        refine D (tm' := [(130, _)]) ⟨rfl, trivial⟩ (DStep.yields (mv rfl)) rfl ?_
        refine DOps.split 4 rfl (fun g3 => ?_) (fun g3 => ?_)
        ·
         skip
         refine DOps.on rfl rfl ?_
         refine D (tm' := [(4, _)]) ⟨rfl, trivial⟩ (DStep.yields (mv rfl)) rfl ?_
         refine DOps.on rfl rfl ?_
         refine D (tm' := [(132, _)]) ⟨rfl, trivial⟩ (DStep.yields (Yields.idx_roN sl26 rfl rfl rfl (j := 1) rfl (by simp [Tr.avs]))) rfl ?_
         refine DOps.on rfl rfl ?_
         refine D (tm' := [(133, _)]) ⟨rfl, trivial⟩ (DStep.yields (Yields.load_rop_aggV kd28 rfl rfl rfl)) rfl ?_
         refine DOps.on rfl rfl ?_
         refine D (tm' := [(1, _)]) ⟨rfl, trivial⟩ (DStep.yields (Yields.fieldAddr_ptr fo28_2 rfl)) rfl ?_
         refine DOps.on rfl rfl ?_
         refine D (tm' := [(135, _)]) ⟨rfl, trivial⟩ (DStep.yields (Yields.load_ptr_field (j := 1) kd9 rfl rfl rfl rfl rfl rfl rfl)) rfl ?_
         refine DOps.on rfl rfl ?_
         refine D (tm' := [(134, _), (136, _)]) ⟨rfl, rfl, trivial⟩ (DStep.callro (ifreeC_AF (.mk xk xn xt xks) hxb (by omega) (d - 1) (by omega) (by omega) hx t) rfl rfl) rfl ?_
         refine DOps.on rfl rfl ?_
         refine D (tm' := [(137, _)]) ⟨rfl, trivial⟩ (DStep.yields (Yields.not rfl)) rfl ?_
         refine D (tm' := [(131, _), (138, _)]) ⟨rfl, rfl, trivial⟩ (DStep.yields (Yields.pick_true rfl rfl)) rfl ?_
         refine DOps.nil ?_
         refine AWP.condT rfl (fun g4 => ?_) (fun g4 => ?_)
         ·
          skip
          refine AWP.seq ?_
          refine AWP.region ?_
          refine Y (mv rfl) rfl ?_
          refine Y (Yields.idx_roN sl26 rfl rfl rfl (j := 1) rfl (by simp [Tr.avs])) rfl ?_
          refine Y (Yields.load_rop_aggV kd28 rfl rfl rfl) rfl ?_
          refine AOps.store (j := 0) kd28 rfl rfl rfl rfl rfl rfl ?_
          refine Y (ass rfl) rfl ?_
          refine AOps.nil ?_
          refine AWP.ret ⟨.inl rfl, ?_⟩
          exact RetH.of (rs := [.cell 2 28, .tmp 3]) (vs := [_, _]) rfl ⟨resOne.cell (j := 0) rfl rfl kd28 rfl rfl rfl, rfl, trivial⟩ KeepR.nil (⟨by rw [sT11, simLet, if_neg (fun q => g2 q.2), if_pos ⟨g3, by simpa using g4⟩]; rfl, rfl⟩)
         ·
          skip
          refine AWP.skip ?_
          refine AWP.seq ?_
          refine AWP.region ?_
          refine Y (Yields.load_ptr_agg (j := 1) kd28 rfl rfl rfl rfl) rfl ?_
          refine AOps.store (j := 0) kd28 rfl rfl rfl rfl rfl rfl ?_
          refine Y (ass rfl) rfl ?_
          refine AOps.nil ?_
          refine AWP.ret ⟨.inl rfl, ?_⟩
          exact RetH.of (rs := [.cell 2 28, .tmp 3]) (vs := [_, _]) rfl ⟨resOne.cell (j := 0) rfl rfl kd28 rfl rfl rfl, rfl, trivial⟩ KeepR.nil (⟨by rw [sT11, simLet, if_neg (fun q => g2 q.2), if_neg (fun q => by rw [q.2] at g4; cases g4)]; rfl, rfl⟩)
        ·
         skip
         refine DOps.off rfl rfl rfl rfl ?_
         refine DOps.off rfl rfl rfl rfl ?_
         refine DOps.off rfl rfl rfl rfl ?_
         refine DOps.off rfl rfl rfl rfl ?_
         refine DOps.off rfl rfl rfl rfl ?_
         refine DOps.off rfl rfl rfl rfl ?_
         refine DOps.off rfl rfl rfl rfl ?_
         refine D (tm' := [(131, _), (138, _)]) ⟨rfl, rfl, trivial⟩ (DStep.yields (Yields.pick_false rfl rfl)) rfl ?_
         refine DOps.nil ?_
         refine AWP.cond rfl (fun h => absurd h (by decide)) (fun _ => ?_)
         refine AWP.skip ?_
         refine AWP.seq ?_
         refine AWP.region ?_
         refine Y (Yields.load_ptr_agg (j := 1) kd28 rfl rfl rfl rfl) rfl ?_
         refine AOps.store (j := 0) kd28 rfl rfl rfl rfl rfl rfl ?_
         refine Y (ass rfl) rfl ?_
         refine AOps.nil ?_
         refine AWP.ret ⟨.inl rfl, ?_⟩
         exact RetH.of (rs := [.cell 2 28, .tmp 3]) (vs := [_, _]) rfl ⟨resOne.cell (j := 0) rfl rfl kd28 rfl rfl rfl, rfl, trivial⟩ KeepR.nil (⟨by rw [sT11, simLet, if_neg (fun q => g2 q.2), if_neg (fun q => by rw [q.1] at g3; cases g3)]; rfl, rfl⟩)
      ·
       replace g1 := ne_of_beq_false g1
       refine DOps.off rfl rfl rfl rfl ?_
       refine DOps.off rfl rfl rfl rfl ?_
       refine DOps.off rfl rfl rfl rfl ?_
       refine DOps.off rfl rfl rfl rfl ?_
       refine DOps.off rfl rfl rfl rfl ?_
       refine DOps.off rfl rfl rfl rfl ?_
       refine DOps.off rfl rfl rfl rfl ?_
       refine D (tm' := [(115, _), (122, _)]) ⟨rfl, rfl, trivial⟩ (DStep.yields (Yields.pick_false rfl rfl)) rfl ?_
       refine DOps.nil ?_
       refine AWP.cond rfl (fun h => absurd h (by decide)) (fun _ => ?_)
       refine AWP.skip ?_
       refine AWP.seq ?_
       refine AWP.prune (tm' := [(0, _), (1, _), (2, _), (3, _), (4, _), (8, _), (9, _), (33, _), (102, _), (108, _), (123, _)]) ⟨rfl, rfl, rfl, rfl, rfl, rfl, rfl, rfl, rfl, rfl, rfl, trivial⟩ ?_
       refine AWP.drawn mixed rfl rfl ?_
       refine D (tm' := [(4, _)]) ⟨rfl, trivial⟩ (DStep.yields (mv rfl)) rfl ?_
       refine D (tm' := [(127, _)]) ⟨rfl, trivial⟩ (DStep.yields (Yields.idx_roN sl26 rfl rfl rfl (j := 0) rfl (by simp [Tr.avs]))) rfl ?_
       refine D (tm' := [(128, _)]) ⟨rfl, trivial⟩ (DStep.yields (Yields.load_rop_aggV kd28 rfl rfl rfl)) rfl ?_
       refine D (tm' := [(129, _)]) ⟨rfl, trivial⟩ (DStep.callro (iplain_AF (.mk ck cn ct cks) hcb) rfl rfl) rfl ?_
       refine D (tm' := [(130, _)]) ⟨rfl, trivial⟩ (DStep.yields (mv rfl)) rfl ?_
       refine DOps.split 4 rfl (fun g3 => ?_) (fun g3 => ?_)
       ·
        skip
        refine DOps.on rfl rfl ?_
        refine D (tm' := [(4, _)]) ⟨rfl, trivial⟩ (DStep.yields (mv rfl)) rfl ?_
        refine DOps.on rfl rfl ?_
        refine D (tm' := [(132, _)]) ⟨rfl, trivial⟩ (DStep.yields (Yields.idx_roN sl26 rfl rfl rfl (j := 1) rfl (by simp [Tr.avs]))) rfl ?_
        refine DOps.on rfl rfl ?_
        refine D (tm' := [(133, _)]) ⟨rfl, trivial⟩ (DStep.yields (Yields.load_rop_aggV kd28 rfl rfl rfl)) rfl ?_
        refine DOps.on rfl rfl ?_
        refine D (tm' := [(1, _)]) ⟨rfl, trivial⟩ (DStep.yields (Yields.fieldAddr_ptr fo28_2 rfl)) rfl ?_
        refine DOps.on rfl rfl ?_
        refine D (tm' := [(135, _)]) ⟨rfl, trivial⟩ (DStep.yields (Yields.load_ptr_field (j := 1) kd9 rfl rfl rfl rfl rfl rfl rfl)) rfl ?_
        refine DOps.on rfl rfl ?_
        refine D (tm' := [(134, _), (136, _)]) ⟨rfl, rfl, trivial⟩ (DStep.callro (ifreeC_AF (.mk xk xn xt xks) hxb (by omega) (d - 1) (by omega) (by omega) hx t) rfl rfl) rfl ?_
        refine DOps.on rfl rfl ?_
        refine D (tm' := [(137, _)]) ⟨rfl, trivial⟩ (DStep.yields (Yields.not rfl)) rfl ?_
        refine D (tm' := [(131, _), (138, _)]) ⟨rfl, rfl, trivial⟩ (DStep.yields (Yields.pick_true rfl rfl)) rfl ?_
        refine DOps.nil ?_
        refine AWP.condT rfl (fun g4 => ?_) (fun g4 => ?_)
        ·
         skip
         refine AWP.seq ?_
         refine AWP.region ?_
         refine Y (mv rfl) rfl ?_
         refine Y (Yields.idx_roN sl26 rfl rfl rfl (j := 1) rfl (by simp [Tr.avs])) rfl ?_
         refine Y (Yields.load_rop_aggV kd28 rfl rfl rfl) rfl ?_
         refine AOps.store (j := 0) kd28 rfl rfl rfl rfl rfl rfl ?_
         refine Y (ass rfl) rfl ?_
         refine AOps.nil ?_
         refine AWP.ret ⟨.inl rfl, ?_⟩
         exact RetH.of (rs := [.cell 2 28, .tmp 3]) (vs := [_, _]) rfl ⟨resOne.cell (j := 0) rfl rfl kd28 rfl rfl rfl, rfl, trivial⟩ KeepR.nil (⟨by rw [sT11, simLet, if_neg (fun q => g1 q.1), if_pos ⟨g3, by simpa using g4⟩]; rfl, rfl⟩)
        ·
         skip
         refine AWP.skip ?_
         refine AWP.seq ?_
         refine AWP.region ?_
         refine Y (Yields.load_ptr_agg (j := 1) kd28 rfl rfl rfl rfl) rfl ?_
         refine AOps.store (j := 0) kd28 rfl rfl rfl rfl rfl rfl ?_
         refine Y (ass rfl) rfl ?_
         refine AOps.nil ?_
         refine AWP.ret ⟨.inl rfl, ?_⟩
         exact RetH.of (rs := [.cell 2 28, .tmp 3]) (vs := [_, _]) rfl ⟨resOne.cell (j := 0) rfl rfl kd28 rfl rfl rfl, rfl, trivial⟩ KeepR.nil (⟨by rw [sT11, simLet, if_neg (fun q => g1 q.1), if_neg (fun q => by rw [q.2] at g4; cases g4)]; rfl, rfl⟩)
       ·
        skip
        refine DOps.off rfl rfl rfl rfl ?_
        refine DOps.off rfl rfl rfl rfl ?_
        refine DOps.off rfl rfl rfl rfl ?_
        refine DOps.off rfl rfl rfl rfl ?_
        refine DOps.off rfl rfl rfl rfl ?_
        refine DOps.off rfl rfl rfl rfl ?_
        refine DOps.off rfl rfl rfl rfl ?_
        refine D (tm' := [(131, _), (138, _)]) ⟨rfl, rfl, trivial⟩ (DStep.yields (Yields.pick_false rfl rfl)) rfl ?_
        refine DOps.nil ?_
        refine AWP.cond rfl (fun h => absurd h (by decide)) (fun _ => ?_)
        refine AWP.skip ?_
        refine AWP.seq ?_
        refine AWP.region ?_
        refine Y (Yields.load_ptr_agg (j := 1) kd28 rfl rfl rfl rfl) rfl ?_
        refine AOps.store (j := 0) kd28 rfl rfl rfl rfl rfl rfl ?_
        refine Y (ass rfl) rfl ?_
        refine AOps.nil ?_
        refine AWP.ret ⟨.inl rfl, ?_⟩
        exact RetH.of (rs := [.cell 2 28, .tmp 3]) (vs := [_, _]) rfl ⟨resOne.cell (j := 0) rfl rfl kd28 rfl rfl rfl, rfl, trivial⟩ KeepR.nil (⟨by rw [sT11, simLet, if_neg (fun q => g1 q.1), if_neg (fun q => by rw [q.1] at g3; cases g3)]; rfl, rfl⟩)
     ·
      replace c11 := ne_of_beq_false c11
      refine AWP.seq ?_
      refine AWP.region ?_
      refine Y (bn rfl rfl BinR.eql rfl) rfl ?_
      refine Y (ass rfl) rfl ?_
      refine AOps.nil ?_
      refine AWP.condT rfl (fun c12 => ?_) (fun c12 => ?_)
      ·
       replace c12 := eq_of_beq c12
       subst c12
       obtain ⟨ck, cn, ct, cks, xk, xn, xt, xks, rfl⟩ := kids2 hv (.inr (.inr rfl))
       refine AWP.seq ?_
       refine AWP.prune (tm' := [(0, _), (1, _), (2, _), (3, _), (4, _), (8, _), (9, _), (33, _), (102, _), (108, _), (143, _)]) ⟨rfl, rfl, rfl, rfl, rfl, rfl, rfl, rfl, rfl, rfl, rfl, trivial⟩ ?_
       refine AWP.drawn mixed rfl rfl ?_
       refine D (tm' := [(4, _)]) ⟨rfl, trivial⟩ (DStep.yields (mv rfl)) rfl ?_
       refine D (tm' := [(145, _)]) ⟨rfl, trivial⟩ (DStep.yields (Yields.idx_roN sl26 rfl rfl rfl (j := 1) rfl (by simp [Tr.avs]))) rfl ?_
       refine D (tm' := [(146, _)]) ⟨rfl, trivial⟩ (DStep.yields (Yields.fieldAddr_rop fo28_0 rfl)) rfl ?_
       refine D (tm' := [(147, _)]) ⟨rfl, trivial⟩ (DStep.yields (Yields.load_rop_field kd3 rfl rfl rfl rfl rfl)) rfl ?_
       refine D (tm' := [(148, _)]) ⟨rfl, trivial⟩ (DStep.yields (bn rfl rfl BinR.eql rfl)) rfl ?_
       refine D (tm' := [(149, _)]) ⟨rfl, trivial⟩ (DStep.yields (mv rfl)) rfl ?_
       refine DOps.split 5 rfl (fun g1 => ?_) (fun g1 => ?_)
       ·
        replace g1 := eq_of_beq g1
        refine DOps.on rfl rfl ?_
        refine D (tm' := [(4, _)]) ⟨rfl, trivial⟩ (DStep.yields (mv rfl)) rfl ?_
        refine DOps.on rfl rfl ?_
        refine D (tm' := [(151, _)]) ⟨rfl, trivial⟩ (DStep.yields (Yields.idx_roN sl26 rfl rfl rfl (j := 1) rfl (by simp [Tr.avs]))) rfl ?_
        refine DOps.on rfl rfl ?_
        refine D (tm' := [(152, _)]) ⟨rfl, trivial⟩ (DStep.yields (Yields.fieldAddr_rop fo28_2 rfl)) rfl ?_
        refine DOps.on rfl rfl ?_
        refine D (tm' := [(153, _)]) ⟨rfl, trivial⟩ (DStep.yields (Yields.load_rop_field kd9 rfl rfl rfl rfl rfl)) rfl ?_
        refine DOps.on rfl rfl ?_
        refine D (tm' := [(1, _)]) ⟨rfl, trivial⟩ (DStep.yields (Yields.fieldAddr_ptr fo28_2 rfl)) rfl ?_
        refine DOps.on rfl rfl ?_
        refine D (tm' := [(155, _)]) ⟨rfl, trivial⟩ (DStep.yields (Yields.load_ptr_field (j := 1) kd9 rfl rfl rfl rfl rfl rfl rfl)) rfl ?_
        refine DOps.on rfl rfl ?_
        refine D (tm' := [(154, _), (156, _)]) ⟨rfl, rfl, trivial⟩ (DStep.yields (bn rfl rfl BinR.seql rfl)) rfl ?_
        refine D (tm' := [(150, _), (157, _)]) ⟨rfl, rfl, trivial⟩ (DStep.yields (Yields.pick_true rfl rfl)) rfl ?_
        refine DOps.nil ?_
        refine AWP.condT rfl (fun g2 => ?_) (fun g2 => ?_)
        ·
         replace g2 := of_decide_eq_true g2
         refine AWP.seq ?_
         refine AWP.region ?_
         refine Y (mv rfl) rfl ?_
         refine Y (Yields.idx_roN sl26 rfl rfl rfl (j := 0) rfl (by simp [Tr.avs])) rfl ?_
         refine Y (Yields.load_rop_aggV kd28 rfl rfl rfl) rfl ?_
         refine AOps.store (j := 0) kd28 rfl rfl rfl rfl rfl rfl ?_
         refine Y (ass rfl) rfl ?_
         refine AOps.nil ?_
         refine AWP.ret ⟨.inl rfl, ?_⟩
         exact RetH.of (rs := [.cell 2 28, .tmp 3]) (vs := [_, _]) rfl ⟨resOne.cell (j := 0) rfl rfl kd28 rfl rfl rfl, rfl, trivial⟩ KeepR.nil (⟨by rw [sT12, simFor, if_pos ⟨g1, g2⟩]; rfl, rfl⟩)
        ·
         replace g2 := of_decide_eq_false g2
         refine AWP.skip ?_
         refine AWP.seq ?_
         refine AWP.region ?_
         refine Y (Yields.load_ptr_agg (j := 1) kd28 rfl rfl rfl rfl) rfl ?_
         refine AOps.store (j := 0) kd28 rfl rfl rfl rfl rfl rfl ?_
         refine Y (ass rfl) rfl ?_
         refine AOps.nil ?_
         refine AWP.ret ⟨.inl rfl, ?_⟩
         exact RetH.of (rs := [.cell 2 28, .tmp 3]) (vs := [_, _]) rfl ⟨resOne.cell (j := 0) rfl rfl kd28 rfl rfl rfl, rfl, trivial⟩ KeepR.nil (⟨by rw [sT12, simFor, if_neg (fun q => g2 q.2)]; rfl, rfl⟩)
       ·
        replace g1 := ne_of_beq_false g1
        refine DOps.off rfl rfl rfl rfl ?_
        refine DOps.off rfl rfl rfl rfl ?_
        refine DOps.off rfl rfl rfl rfl ?_
        refine DOps.off rfl rfl rfl rfl ?_
        refine DOps.off rfl rfl rfl rfl ?_
        refine DOps.off rfl rfl rfl rfl ?_
        refine DOps.off rfl rfl rfl rfl ?_
        refine D (tm' := [(150, _), (157, _)]) ⟨rfl, rfl, trivial⟩ (DStep.yields (Yields.pick_false rfl rfl)) rfl ?_
        refine DOps.nil ?_
        refine AWP.cond rfl (fun h => absurd h (by decide)) (fun _ => ?_)
        refine AWP.skip ?_
        refine AWP.seq ?_
        refine AWP.region ?_
        refine Y (Yields.load_ptr_agg (j := 1) kd28 rfl rfl rfl rfl) rfl ?_
        refine AOps.store (j := 0) kd28 rfl rfl rfl rfl rfl rfl ?_
        refine Y (ass rfl) rfl ?_
        refine AOps.nil ?_
        refine AWP.ret ⟨.inl rfl, ?_⟩
        exact RetH.of (rs := [.cell 2 28, .tmp 3]) (vs := [_, _]) rfl ⟨resOne.cell (j := 0) rfl rfl kd28 rfl rfl rfl, rfl, trivial⟩ KeepR.nil (⟨by rw [sT12, simFor, if_neg (fun q => g1 q.1)]; rfl, rfl⟩)
      ·
       replace c12 := ne_of_beq_false c12
       refine AWP.seq ?_
       refine AWP.region ?_
       refine Y (bn rfl rfl BinR.eql rfl) rfl ?_
       refine Y (ass rfl) rfl ?_
       refine AOps.nil ?_
       refine AWP.condT rfl (fun c13 => ?_) (fun c13 => ?_)
       ·
        replace c13 := eq_of_beq c13
        subst c13
        obtain ⟨ck, cn, ct, cks, rfl⟩ := kids1 hv (.inr rfl)
        have hcb := Tr.bnds_get (i := 0) b3' rfl
        have hlk := Tr.avs_length cks
        refine AWP.seq ?_
        refine AWP.region ?_
        refine Y (mv rfl) rfl ?_
        refine Y (Yields.idx_roN sl26 rfl rfl rfl (j := 0) rfl (by simp [Tr.avs])) rfl ?_
        refine Y (Yields.fieldAddr_rop fo28_0 rfl) rfl ?_
        refine Y (Yields.load_rop_field kd3 rfl rfl rfl rfl rfl) rfl ?_
        refine Y (bn rfl rfl BinR.eql rfl) rfl ?_
        refine Y (mv rfl) rfl ?_
        refine AOps.split 169 rfl (fun g1 => ?_) (fun g1 => ?_)
        ·
         replace g1 := eq_of_beq g1
         refine AOps.on rfl rfl ?_
         refine Y (mv rfl) rfl ?_
         refine AOps.on rfl rfl ?_
         refine Y (Yields.idx_roN sl26 rfl rfl rfl (j := 0) rfl (by simp [Tr.avs])) rfl ?_
         refine AOps.on rfl rfl ?_
         refine Y (Yields.load_rop_aggV kd28 rfl rfl rfl) rfl ?_
         refine AOps.on rfl rfl ?_
         refine AOps.callro (iplain_AF (.mk ck cn ct cks) hcb) rfl rfl rfl ?_
         refine Y (Yields.pick_true rfl rfl) rfl ?_
         refine AOps.nil ?_
         refine AWP.condT rfl (fun g2 => ?_) (fun g2 => ?_)
         ·
          skip
          refine AWP.seq ?_
          refine AWP.region ?_
          refine Y (mv rfl) rfl ?_
          refine Y (Yields.idx_roN sl26 rfl rfl rfl (j := 0) rfl (by simp [Tr.avs])) rfl ?_
          refine Y (Yields.fieldAddr_rop fo28_3 rfl) rfl ?_
          refine Y (Yields.load_rop_field kd26 rfl rfl rfl rfl rfl) rfl ?_
          refine Y (Yields.len_ro sl26 rfl) rfl ?_
          refine Y (Yields.build pl28 z28 rfl rfl) rfl ?_
          refine AOps.store (j := 0) kd28 rfl rfl rfl rfl rfl rfl ?_
          refine Y (ass rfl) rfl ?_
          refine AOps.nil ?_
          refine AWP.leads (Leads.rowWk 0 0 rfl rfl (wk_leafV _ _ _)) ?_
          refine AWP.ret ⟨.inl rfl, ?_⟩
          exact RetH.of (rs := [.cell 2 28, .tmp 3]) (vs := [_, _]) rfl ⟨resOne.cell (j := 0) rfl rfl kd28 rfl rfl rfl, rfl, trivial⟩ KeepR.nil (⟨by rw [sT13, simSize, if_pos ⟨g1, g2⟩, hlk]; rfl, rfl⟩)
         ·
          skip
          refine AWP.skip ?_
          refine AWP.seq ?_
          refine AWP.region ?_
          refine Y (Yields.load_ptr_agg (j := 1) kd28 rfl rfl rfl rfl) rfl ?_
          refine AOps.store (j := 0) kd28 rfl rfl rfl rfl rfl rfl ?_
          refine Y (ass rfl) rfl ?_
          refine AOps.nil ?_
          refine AWP.ret ⟨.inl rfl, ?_⟩
          exact RetH.of (rs := [.cell 2 28, .tmp 3]) (vs := [_, _]) rfl ⟨resOne.cell (j := 0) rfl rfl kd28 rfl rfl rfl, rfl, trivial⟩ KeepR.nil (⟨by rw [sT13, simSize, if_neg (fun q => by rw [q.2] at g2; cases g2)]; rfl, rfl⟩)
        ·
         replace g1 := ne_of_beq_false g1
         refine AOps.off' rfl rfl rfl rfl ?_
         refine AOps.off' rfl rfl rfl rfl ?_
         refine AOps.off' rfl rfl rfl rfl ?_
         refine AOps.off' rfl rfl rfl rfl ?_
         refine Y (Yields.pick_false rfl rfl) rfl ?_
         refine AOps.nil ?_
         refine AWP.cond rfl (fun h => absurd h (by decide)) (fun _ => ?_)
         refine AWP.skip ?_
         refine AWP.seq ?_
         refine AWP.region ?_
         refine Y (Yields.load_ptr_agg (j := 1) kd28 rfl rfl rfl rfl) rfl ?_
         refine AOps.store (j := 0) kd28 rfl rfl rfl rfl rfl rfl ?_
         refine Y (ass rfl) rfl ?_
         refine AOps.nil ?_
         refine AWP.ret ⟨.inl rfl, ?_⟩
         exact RetH.of (rs := [.cell 2 28, .tmp 3]) (vs := [_, _]) rfl ⟨resOne.cell (j := 0) rfl rfl kd28 rfl rfl rfl, rfl, trivial⟩ KeepR.nil (⟨by rw [sT13, simSize, if_neg (fun q => g1 q.1)]; rfl, rfl⟩)
       ·
        replace c13 := ne_of_beq_false c13
        refine AWP.skip ?_
        refine AWP.seq ?_
        refine AWP.region ?_
        refine Y (Yields.load_ptr_agg (j := 1) kd28 rfl rfl rfl rfl) rfl ?_
        refine AOps.store (j := 0) kd28 rfl rfl rfl rfl rfl rfl ?_
        refine Y (ass rfl) rfl ?_
        refine AOps.nil ?_
        refine AWP.ret ⟨.inl rfl, ?_⟩
        exact RetH.of (rs := [.cell 2 28, .tmp 3]) (vs := [_, _]) rfl ⟨resOne.cell (j := 0) rfl rfl kd28 rfl rfl rfl, rfl, trivial⟩ KeepR.nil (⟨by rw [sT0 c8 c10 c9 c11 c12 c13]; rfl, rfl⟩)
end Go.Proofs.YtccdgppplkfjfaaGreat
