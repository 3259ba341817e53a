/- ExprAt, ExprPut, LocalsAt. -/
import Derived.Test.YtccdgppplkfjfaaPath
import Derived.Test.YtccdgppplkfjfaaHeld
import Derived.Test.YtccdgppplkfjfaaCalls
namespace Go.Proofs.Ytccdgppplkfjfaa
open Go Go.Ax Go.Proofs
set_option linter.unusedVariables false
set_option linter.unusedSimpArgs false
set_option maxRecDepth 20000
def ownTP (k : Tr) (b : Bool) : AV → Hp → Prop := fun r hp' => ∃ B : Option Nat, r = .tup [openT B k, bool b] ∧ hp' = [(B, ⟨4, Tr.avXs Tr.nosp k.kids⟩)]
theorem ownTP.fz {k : Tr} {b : Bool} {r : AV} {hp' : Hp} (h : ownTP k b r hp') : Fz hp' r (.tup [k.av, bool b]) := by
  obtain ⟨B, rfl, rfl⟩ := h
  exact Fz.tup ⟨(bor_avT (j := 0) k rfl).fz, Fz.refl, trivial⟩
theorem ownTP.free {k : Tr} {b : Bool} {r : AV} {hp' : Hp} (h : ownTP k b r hp') : Free r ∧ ∀ B row, (B, row) ∈ hp' → FreeL row.xs := by
  obtain ⟨B, rfl, rfl⟩ := h
  obtain ⟨h1, h2⟩ := ownT.free (k := k) ⟨B, rfl, rfl⟩
  exact ⟨Free.tup ⟨h1, Free.val, trivial⟩, h2⟩
def atB (k : Tr) (p : List Int) : Bool := okE k && (atT k p).isSome
def atE (k : Tr) (p : List Int) : Tr := if atB k p = true then atV k p else nilTr
theorem atE_no {k : Tr} {p : List Int} (h : atB k p = false) : atE k p = nilTr := if_neg (by rw [h]; simp)
theorem atV_bnd' {N : Nat} (k : Tr) (p : List Int) (hk : k.bnd N) : (atV k p).bnd N := by
  unfold atV
  cases h : atT k p with
  | none => simp [nilTr, Tr.bnd, Tr.bnds, ByteArray.size]
  | some x => exact atV_bnd p k hk x h
theorem iExprAt_AH (k : Tr) (hk : k.bnd 1000000) (hz : sizeT k ≤ 2000000) (p : List Int) (hp : p.length ≤ 1000000) : FnH 27 [] [k.av, .ro 1 (ints p) [] false] (ownTP (atE k p) (atB k p)) := by
  obtain ⟨kd, nm, t, ks⟩ := k
  refine AH.intro Try.func27 nm27 rfl rfl rfl fun w0 ok0 own0 => ?_
  refine AWP.seq ?_
  refine AWP.region ?_
  refine AOps.box rfl rfl rfl rfl fun b2 => ?_
  refine AOps.alloc rfl z30 rfl rfl fun b4 => ?_
  refine Y (ass rfl) rfl ?_
  refine AOps.nil ?_
  refine AWP.seq ?_
  refine AWP.seq ?_
  refine AWP.region ?_
  refine Y (Yields.load_ptr_agg (j := 1) kd30 rfl rfl rfl rfl) rfl ?_
  refine AOps.callro (iExprOk_AF' (.mk kd nm t ks) hk) rfl rfl rfl ?_
  refine Y (Yields.not rfl) rfl ?_
  refine AOps.nil ?_
  refine AWP.condT rfl (fun h => ?_) (fun h => ?_)
  ·
   skip
   refine AWP.seq ?_
   refine AWP.region ?_
   have h : atB (.mk kd nm t ks) p = false := by rw [atB]; simp at h; rw [h]; rfl
   refine Y (Yields.build pl30 z30 rfl rfl) rfl ?_
   refine AOps.store (j := 0) kd30 rfl rfl rfl rfl rfl rfl ?_
   refine Y (ass rfl) rfl ?_
   refine AOps.nil ?_
   refine AWP.leads (Leads.rowWk 0 0 rfl rfl (Wk.agg (ps := [_, _, _, .loc none 0 0 0 4]) ⟨Wk.refl _, Wk.refl _, Wk.refl _, Wk.nilLoc (n := 4), trivial⟩)) ?_
   refine AWP.leads (Leads.row0 4) ?_
   refine AWP.ret ⟨.inl rfl, ?_⟩
   exact RetH.of (rs := [.cell 4 30, .tmp 5]) (vs := [_, _]) rfl ⟨resOne.cell (j := 1) rfl rfl kd30 rfl rfl rfl, rfl, trivial⟩ (KeepR.cons 0 rfl KeepR.nil) (⟨none, by rw [atE_no h, h]; rfl, by rw [atE_no h]; rfl⟩)
  ·
   skip
   have h : okE (.mk kd nm t ks) = true := by simpa using h
   have hat := iat_AF (.mk kd nm t ks) hk p hp
   have hvb := atV_bnd' (.mk kd nm t ks) p hk
   obtain ⟨y, hy⟩ : ∃ y, atV (.mk kd nm t ks) p = y := ⟨_, rfl⟩
   obtain ⟨yd, yn, yt, yks⟩ := y
   rw [hy] at hat hvb
   refine AWP.skip ?_
   refine AWP.seq ?_
   refine AWP.region ?_
   refine Y (Yields.load_ptr_agg (j := 1) kd30 rfl rfl rfl rfl) rfl ?_
   refine Y (mv rfl) rfl ?_
   refine AOps.callro (hat) rfl rfl rfl ?_
   refine Y (mv rfl) rfl ?_
   refine Y (Yields.extract rfl rfl) rfl ?_
   refine Y (Yields.extract rfl rfl) rfl ?_
   refine AOps.alloc rfl z30 rfl rfl fun b1 => ?_
   refine AOps.store (j := 0) kd30 rfl rfl rfl rfl rfl rfl ?_
   refine Y (ass rfl) rfl ?_
   refine AOps.nil ?_
   refine AWP.seq ?_
   refine AWP.seq ?_
   refine AWP.region ?_
   refine Y (mv rfl) rfl ?_
   refine Y (Yields.not rfl) rfl ?_
   refine AOps.nil ?_
   refine AWP.condT rfl (fun h2 => ?_) (fun h2 => ?_)
   ·
    skip
    refine AWP.seq ?_
    refine AWP.region ?_
    have h2 : atB (.mk kd nm t ks) p = false := by rw [atB, h]; simp at h2; simp [h2]
    refine Y (Yields.build pl30 z30 rfl rfl) rfl ?_
    refine AOps.store (j := 1) kd30 rfl rfl rfl rfl rfl rfl ?_
    refine Y (ass rfl) rfl ?_
    refine AOps.nil ?_
    refine AWP.leads (Leads.rowWk 1 0 rfl rfl (Wk.agg (ps := [_, _, _, .loc none 0 0 0 4]) ⟨Wk.refl _, Wk.refl _, Wk.refl _, Wk.nilLoc (n := 4), trivial⟩)) ?_
    refine AWP.leads (Leads.row0 4) ?_
    refine AWP.ret ⟨.inl rfl, ?_⟩
    exact RetH.of (rs := [.cell 4 30, .tmp 5]) (vs := [_, _]) rfl ⟨resOne.cell (j := 2) rfl rfl kd30 rfl rfl rfl, rfl, trivial⟩ (KeepR.cons 0 rfl KeepR.nil) (⟨none, by rw [atE_no h2, h2]; rfl, by rw [atE_no h2]; rfl⟩)
   ·
    skip
    have h2 : atB (.mk kd nm t ks) p = true := by rw [atB, h]; simpa using h2
    refine AWP.skip ?_
    refine AWP.seq ?_
    refine AWP.region ?_
    refine Y (Yields.load_ptr_agg (j := 0) kd30 rfl rfl rfl rfl) rfl ?_
    refine AOps.callH (.inl trivial) (icopied_AH (.mk yd yn yt yks) hvb) rfl rfl rfl (WkL.refl _) ?_
    rintro _ _ ⟨Bc, rfl, rfl⟩
    refine AOps.store (j := 2) kd30 rfl rfl rfl rfl rfl rfl ?_
    refine Y (ass rfl) rfl ?_
    refine AOps.nil ?_
    refine AWP.ret ⟨.inl rfl, ?_⟩
    exact RetH.of (rs := [.cell 4 30, .tmp 5]) (vs := [_, _]) rfl ⟨resOne.cell (j := 2) rfl rfl kd30 rfl rfl rfl, rfl, trivial⟩ (KeepR.cons 0 rfl KeepR.nil) (⟨Bc, by rw [atE, if_pos h2, hy, h2]; rfl, by rw [atE, if_pos h2, hy]⟩)
theorem sExprAt_AH (k : Tr) (hk : k.bnd 1000000) (hz : sizeT k ≤ 2000000) (p : List Int) (hp : p.length ≤ 1000000) : FnH 25 [] [k.av, .ro 1 (ints p) [] false] (ownTP (atE k p) (atB k p)) := by
  obtain ⟨kd, nm, t, ks⟩ := k
  refine AH.intro Try.func25 nm25 rfl rfl rfl fun w0 ok0 own0 => ?_
  refine AWP.seq ?_
  refine AWP.region ?_
  refine AOps.box rfl rfl rfl rfl fun b2 => ?_
  refine AOps.alloc rfl z30 rfl rfl fun b4 => ?_
  refine Y (ass rfl) rfl ?_
  refine AOps.nil ?_
  refine AWP.seq ?_
  refine AWP.seq ?_
  refine AWP.region ?_
  refine Y (Yields.load_ptr_agg (j := 1) kd30 rfl rfl rfl rfl) rfl ?_
  refine AOps.callro (sExprOk_AF (.mk kd nm t ks) hk hz) rfl rfl rfl ?_
  refine Y (Yields.not rfl) rfl ?_
  refine AOps.nil ?_
  refine AWP.condT rfl (fun h => ?_) (fun h => ?_)
  ·
   skip
   refine AWP.seq ?_
   refine AWP.region ?_
   have h : atB (.mk kd nm t ks) p = false := by rw [atB]; simp at h; rw [h]; rfl
   refine Y (Yields.build pl30 z30 rfl rfl) rfl ?_
   refine AOps.store (j := 0) kd30 rfl rfl rfl rfl rfl rfl ?_
   refine Y (ass rfl) rfl ?_
   refine AOps.nil ?_
   refine AWP.leads (Leads.rowWk 0 0 rfl rfl (Wk.agg (ps := [_, _, _, .loc none 0 0 0 4]) ⟨Wk.refl _, Wk.refl _, Wk.refl _, Wk.nilLoc (n := 4), trivial⟩)) ?_
   refine AWP.leads (Leads.row0 4) ?_
   refine AWP.ret ⟨.inl rfl, ?_⟩
   exact RetH.of (rs := [.cell 4 30, .tmp 5]) (vs := [_, _]) rfl ⟨resOne.cell (j := 1) rfl rfl kd30 rfl rfl rfl, rfl, trivial⟩ (KeepR.cons 0 rfl KeepR.nil) (⟨none, by rw [atE_no h, h]; rfl, by rw [atE_no h]; rfl⟩)
  ·
   skip
   have h : okE (.mk kd nm t ks) = true := by simpa using h
   have hat := spart_AF (.mk kd nm t ks) hk p hp
   have hvb := atV_bnd' (.mk kd nm t ks) p hk
   obtain ⟨y, hy⟩ : ∃ y, atV (.mk kd nm t ks) p = y := ⟨_, rfl⟩
   obtain ⟨yd, yn, yt, yks⟩ := y
   rw [hy] at hat hvb
   refine AWP.skip ?_
   refine AWP.seq ?_
   refine AWP.region ?_
   refine Y (Yields.load_ptr_agg (j := 1) kd30 rfl rfl rfl rfl) rfl ?_
   refine Y (mv rfl) rfl ?_
   refine AOps.callro (hat) rfl rfl rfl ?_
   refine Y (mv rfl) rfl ?_
   refine Y (Yields.extract rfl rfl) rfl ?_
   refine Y (Yields.extract rfl rfl) rfl ?_
   refine AOps.alloc rfl z30 rfl rfl fun b1 => ?_
   refine AOps.store (j := 0) kd30 rfl rfl rfl rfl rfl rfl ?_
   refine Y (ass rfl) rfl ?_
   refine AOps.nil ?_
   refine AWP.seq ?_
   refine AWP.seq ?_
   refine AWP.region ?_
   refine Y (mv rfl) rfl ?_
   refine Y (Yields.not rfl) rfl ?_
   refine AOps.nil ?_
   refine AWP.condT rfl (fun h2 => ?_) (fun h2 => ?_)
   ·
    skip
    refine AWP.seq ?_
    refine AWP.region ?_
    have h2 : atB (.mk kd nm t ks) p = false := by rw [atB, h]; simp at h2; simp [h2]
    refine Y (Yields.build pl30 z30 rfl rfl) rfl ?_
    refine AOps.store (j := 1) kd30 rfl rfl rfl rfl rfl rfl ?_
    refine Y (ass rfl) rfl ?_
    refine AOps.nil ?_
    refine AWP.leads (Leads.rowWk 1 0 rfl rfl (Wk.agg (ps := [_, _, _, .loc none 0 0 0 4]) ⟨Wk.refl _, Wk.refl _, Wk.refl _, Wk.nilLoc (n := 4), trivial⟩)) ?_
    refine AWP.leads (Leads.row0 4) ?_
    refine AWP.ret ⟨.inl rfl, ?_⟩
    exact RetH.of (rs := [.cell 4 30, .tmp 5]) (vs := [_, _]) rfl ⟨resOne.cell (j := 2) rfl rfl kd30 rfl rfl rfl, rfl, trivial⟩ (KeepR.cons 0 rfl KeepR.nil) (⟨none, by rw [atE_no h2, h2]; rfl, by rw [atE_no h2]; rfl⟩)
   ·
    skip
    have h2 : atB (.mk kd nm t ks) p = true := by rw [atB, h]; simpa using h2
    refine AWP.skip ?_
    refine AWP.seq ?_
    refine AWP.region ?_
    refine Y (Yields.load_ptr_agg (j := 0) kd30 rfl rfl rfl rfl) rfl ?_
    refine AOps.callH (.inl trivial) (scopied_AH (.mk yd yn yt yks) hvb) rfl rfl rfl (WkL.refl _) ?_
    rintro _ _ ⟨Bc, rfl, rfl⟩
    refine AOps.store (j := 2) kd30 rfl rfl rfl rfl rfl rfl ?_
    refine Y (ass rfl) rfl ?_
    refine AOps.nil ?_
    refine AWP.ret ⟨.inl rfl, ?_⟩
    exact RetH.of (rs := [.cell 4 30, .tmp 5]) (vs := [_, _]) rfl ⟨resOne.cell (j := 2) rfl rfl kd30 rfl rfl rfl, rfl, trivial⟩ (KeepR.cons 0 rfl KeepR.nil) (⟨Bc, by rw [atE, if_pos h2, hy, h2]; rfl, by rw [atE, if_pos h2, hy]⟩)
theorem sExprAt_AF (k : Tr) (hk : k.bnd 1000000) (hz : sizeT k ≤ 2000000) (p : List Int) (hp : p.length ≤ 1000000) : Fn 25 [k.av, .ro 1 (ints p) [] false] (.tup [(atE k p).av, bool (atB k p)]) :=
  AH.toF (by simp [plainL, plainV, Tr.plain_av]) (sExprAt_AH k hk hz p hp) (fun r hp' h => ownTP.fz h)
theorem iExprAt_AF (k : Tr) (hk : k.bnd 1000000) (hz : sizeT k ≤ 2000000) (p : List Int) (hp : p.length ≤ 1000000) : Fn 27 [k.av, .ro 1 (ints p) [] false] (.tup [(atE k p).av, bool (atB k p)]) :=
  AH.toF (by simp [plainL, plainV, Tr.plain_av]) (iExprAt_AH k hk hz p hp) (fun r hp' h => ownTP.fz h)
theorem sizeTs_set : ∀ (l : List Tr) (i : Nat) (y : Tr) (z : Tr), l[i]? = some y → sizeTs (l.set i z) = sizeTs l - sizeT y + sizeT z
  | [], i, y, z, h => by simp at h
  | a :: l, 0, y, z, h => by simp at h; subst h; simp [sizeTs]; omega
  | a :: l, i + 1, y, z, h => by
    simp only [List.getElem?_cons_succ] at h
    simp only [List.set_cons_succ, sizeTs, sizeTs_set l i y z h]; omega
theorem putT_size (x : Tr) : ∀ (p : List Int) (k : Tr), (atT k p).isSome = true → sizeT (putT k p x) ≤ sizeT k + sizeT x
  | [], k, h => by rw [putT]; have := sizeT_pos k; omega
  | i :: p, .mk a b c ks, h => by
    obtain ⟨h0, h1, y, hy, hys⟩ := at_cons h
    rw [putT_step hy, sizeT, sizeT, sizeTs_set ks _ y _ hy]
    have := putT_size x p y hys
    omega
theorem bnds_set {N : Nat} : ∀ (l : List Tr) (i : Nat) (z : Tr), Tr.bnds N l → z.bnd N → Tr.bnds N (l.set i z)
  | [], i, z, h, hz => h
  | a :: l, 0, z, h, hz => ⟨hz, h.2⟩
  | a :: l, i + 1, z, h, hz => ⟨h.1, bnds_set l i z h.2 hz⟩
theorem putT_bnd {N : Nat} (x : Tr) (hx : x.bnd N) : ∀ (p : List Int) (k : Tr), k.bnd N → (atT k p).isSome = true → (putT k p x).bnd N
  | [], k, hk, h => by rw [putT]; exact hx
  | i :: p, .mk a b c ks, hk, h => by
    obtain ⟨h0, h1, y, hy, hys⟩ := at_cons h
    rw [putT_step hy]
    exact ⟨hk.1, by rw [List.length_set]; exact hk.2.1, bnds_set ks _ _ hk.2.2 (putT_bnd x hx p y (Tr.bnds_get hk.2.2 hy) hys)⟩
def putB (k : Tr) (p : List Int) (x : Tr) : Bool := okE k && (okE x && ((atT k p).isSome && okE (putT k p x)))
def putE (k : Tr) (p : List Int) (x : Tr) : Tr := if putB k p x = true then putT k p x else nilTr
theorem putE_no {k x : Tr} {p : List Int} (h : putB k p x = false) : putE k p x = nilTr := if_neg (by rw [h]; simp)
theorem putE_facts (k x : Tr) (p : List Int) (hk : k.bnd 1000000) (hx : x.bnd 1000000) : (putE k p x).bnd 1000000 ∧ sizeT (putE k p x) ≤ 40 := by
  unfold putE
  split
  · rename_i h
    simp only [putB, okE, Bool.and_eq_true, decide_eq_true_eq] at h
    exact ⟨putT_bnd x hx p k hk h.2.2.1, h.2.2.2.2⟩
  · exact ⟨by simp [nilTr, Tr.bnd, Tr.bnds, ByteArray.size], by simp [nilTr, sizeT, sizeTs]⟩
theorem atT_size : ∀ (p : List Int) (k x : Tr), atT k p = some x → sizeT x ≤ sizeT k
  | [], k, x, h => by rw [atT] at h; cases h; omega
  | i :: p, .mk a b c ks, x, h => by
    rw [atT] at h
    split at h
    · split at h
      · rename_i y hy
        have := atT_size p y x h
        have h2 := sizeTs_set ks _ y (.mk 0 0 ⟨#[]⟩ []) hy
        have h3 := sizeTs_pos (ks.set i.toNat (.mk 0 0 ⟨#[]⟩ []))
        rw [sizeT]
        have h4 : sizeT (.mk 0 0 ⟨#[]⟩ []) = 1 := by simp [sizeT, sizeTs]
        omega
      · cases h
    · cases h
theorem atE_size (k : Tr) (p : List Int) : sizeT (atE k p) ≤ sizeT k := by
  have h0 : sizeT nilTr = 1 := by simp [nilTr, sizeT, sizeTs]
  have h1 := sizeT_pos k
  unfold atE
  split
  · unfold atV
    cases h : atT k p with
    | none => simp [h0]; omega
    | some x => exact atT_size p k x h
  · omega
theorem atE_facts (k : Tr) (p : List Int) (hk : k.bnd 1000000) : (atE k p).bnd 1000000 := by
  unfold atE
  split
  · exact atV_bnd' k p hk
  · simp [nilTr, Tr.bnd, Tr.bnds, ByteArray.size]
theorem iExprPut_AH (k x : Tr) (hk : k.bnd 1000000) (hz : sizeT k + sizeT x ≤ 2000000) (hx : x.bnd 1000000) (p : List Int) (hp : p.length ≤ 1000000) : FnH 35 [] [k.av, .ro 1 (ints p) [] false, x.av] (ownTP (putE k p x) (putB k p x)) := by
  obtain ⟨kd, nm, t, ks⟩ := k
  obtain ⟨xd, xn, xt, xks⟩ := x
  have hz0 := hz
  have hzp1 := sizeT_pos (.mk kd nm t ks)
  have hzp2 := sizeT_pos (.mk xd xn xt xks)
  have hz : sizeT (.mk kd nm t ks) ≤ 2000000 := by omega
  have hzx : sizeT (.mk xd xn xt xks) ≤ 2000000 := by omega
  refine AH.intro Try.func35 nm35 rfl rfl rfl fun w0 ok0 own0 => ?_
  refine AWP.seq ?_
  refine AWP.region ?_
  refine AOps.box rfl rfl rfl rfl fun b3 => ?_
  refine AOps.box rfl rfl rfl rfl fun b5 => ?_
  refine AOps.alloc rfl z30 rfl rfl fun b6 => ?_
  refine Y (ass rfl) rfl ?_
  refine AOps.nil ?_
  refine AWP.seq ?_
  refine AWP.seq ?_
  refine AWP.region ?_
  refine Y (Yields.load_ptr_agg (j := 2) kd30 rfl rfl rfl rfl) rfl ?_
  refine AOps.callro (iExprOk_AF' (.mk kd nm t ks) hk) rfl rfl rfl ?_
  refine Y (Yields.not rfl) rfl ?_
  refine Y (mv rfl) rfl ?_
  refine AOps.split 14 rfl (fun h => ?_) (fun h => ?_)
  ·
   skip
   have h : putB (.mk kd nm t ks) p (.mk xd xn xt xks) = false := by rw [putB]; simp at h; rw [h]; rfl
   refine AOps.off' rfl rfl rfl rfl ?_
   refine AOps.off' rfl rfl rfl rfl ?_
   refine AOps.off' rfl rfl rfl rfl ?_
   refine Y (Yields.pick_true rfl rfl) rfl ?_
   refine AOps.nil ?_
   refine AWP.cond rfl (fun _ => ?_) (fun h => absurd h (by decide))
   refine AWP.seq ?_
   refine AWP.region ?_
   refine Y (Yields.build pl30 z30 rfl rfl) rfl ?_
   refine AOps.store (j := 0) kd30 rfl rfl rfl rfl rfl rfl ?_
   refine Y (ass rfl) rfl ?_
   refine AOps.nil ?_
   refine AWP.leads (Leads.rowWk 0 0 rfl rfl (Wk.agg (ps := [_, _, _, .loc none 0 0 0 4]) ⟨Wk.refl _, Wk.refl _, Wk.refl _, Wk.nilLoc (n := 4), trivial⟩)) ?_
   refine AWP.leads (Leads.row0 4) ?_
   refine AWP.ret ⟨.inl rfl, ?_⟩
   exact RetH.of (rs := [.cell 6 30, .tmp 7]) (vs := [_, _]) rfl ⟨resOne.cell (j := 1) rfl rfl kd30 rfl rfl rfl, rfl, trivial⟩ (KeepR.cons 0 rfl KeepR.nil) (⟨none, by rw [putE_no h, h]; rfl, by rw [putE_no h]; rfl⟩)
  ·
   skip
   have h : okE (.mk kd nm t ks) = true := by simpa using h
   refine AOps.on rfl rfl ?_
   refine Y (Yields.load_ptr_agg (j := 1) kd30 rfl rfl rfl rfl) rfl ?_
   refine AOps.on rfl rfl ?_
   refine AOps.callro (iExprOk_AF' (.mk xd xn xt xks) hx) rfl rfl rfl ?_
   refine AOps.on rfl rfl ?_
   refine Y (Yields.not rfl) rfl ?_
   refine Y (Yields.pick_false rfl rfl) rfl ?_
   refine AOps.nil ?_
   refine AWP.condT rfl (fun hx2 => ?_) (fun hx2 => ?_)
   ·
    skip
    refine AWP.seq ?_
    refine AWP.region ?_
    have hx2 : putB (.mk kd nm t ks) p (.mk xd xn xt xks) = false := by rw [putB, h]; simp at hx2; rw [hx2]; rfl
    refine Y (Yields.build pl30 z30 rfl rfl) rfl ?_
    refine AOps.store (j := 0) kd30 rfl rfl rfl rfl rfl rfl ?_
    refine Y (ass rfl) rfl ?_
    refine AOps.nil ?_
    refine AWP.leads (Leads.rowWk 0 0 rfl rfl (Wk.agg (ps := [_, _, _, .loc none 0 0 0 4]) ⟨Wk.refl _, Wk.refl _, Wk.refl _, Wk.nilLoc (n := 4), trivial⟩)) ?_
    refine AWP.leads (Leads.row0 4) ?_
    refine AWP.ret ⟨.inl rfl, ?_⟩
    exact RetH.of (rs := [.cell 6 30, .tmp 7]) (vs := [_, _]) rfl ⟨resOne.cell (j := 1) rfl rfl kd30 rfl rfl rfl, rfl, trivial⟩ (KeepR.cons 0 rfl KeepR.nil) (⟨none, by rw [putE_no hx2, hx2]; rfl, by rw [putE_no hx2]; rfl⟩)
   ·
    skip
    have hx2 : okE (.mk xd xn xt xks) = true := by simpa using hx2
    have hat := iat_AF (.mk kd nm t ks) hk p hp
    obtain ⟨y, hy⟩ : ∃ y, atV (.mk kd nm t ks) p = y := ⟨_, rfl⟩
    obtain ⟨yd, yn, yt, yks⟩ := y
    rw [hy] at hat
    refine AWP.skip ?_
    refine AWP.seq ?_
    refine AWP.seq ?_
    refine AWP.region ?_
    refine Y (Yields.load_ptr_agg (j := 2) kd30 rfl rfl rfl rfl) rfl ?_
    refine Y (mv rfl) rfl ?_
    refine AOps.callro (hat) rfl rfl rfl ?_
    refine Y (mv rfl) rfl ?_
    refine Y (Yields.extract rfl rfl) rfl ?_
    refine Y (Yields.extract rfl rfl) rfl ?_
    refine AOps.alloc rfl z30 rfl rfl fun b1 => ?_
    refine AOps.store (j := 0) kd30 rfl rfl rfl rfl rfl rfl ?_
    refine Y (ass rfl) rfl ?_
    refine AOps.nil ?_
    refine AWP.seq ?_
    refine AWP.region ?_
    refine Y (mv rfl) rfl ?_
    refine Y (Yields.not rfl) rfl ?_
    refine AOps.nil ?_
    refine AWP.condT rfl (fun h2 => ?_) (fun h2 => ?_)
    ·
     skip
     refine AWP.seq ?_
     refine AWP.region ?_
     have h2 : putB (.mk kd nm t ks) p (.mk xd xn xt xks) = false := by rw [putB, h, hx2]; simp at h2; simp [h2]
     refine Y (Yields.build pl30 z30 rfl rfl) rfl ?_
     refine AOps.store (j := 1) kd30 rfl rfl rfl rfl rfl rfl ?_
     refine Y (ass rfl) rfl ?_
     refine AOps.nil ?_
     refine AWP.leads (Leads.rowWk 1 0 rfl rfl (Wk.agg (ps := [_, _, _, .loc none 0 0 0 4]) ⟨Wk.refl _, Wk.refl _, Wk.refl _, Wk.nilLoc (n := 4), trivial⟩)) ?_
     refine AWP.leads (Leads.row0 4) ?_
     refine AWP.ret ⟨.inl rfl, ?_⟩
     exact RetH.of (rs := [.cell 6 30, .tmp 7]) (vs := [_, _]) rfl ⟨resOne.cell (j := 2) rfl rfl kd30 rfl rfl rfl, rfl, trivial⟩ (KeepR.cons 0 rfl KeepR.nil) (⟨none, by rw [putE_no h2, h2]; rfl, by rw [putE_no h2]; rfl⟩)
    ·
     skip
     have h2 : (atT (.mk kd nm t ks) p).isSome = true := by simpa using h2
     have hput := iput_AH (.mk xd xn xt xks) hx p (.mk kd nm t ks) hk h2 hp
     have hqb := putT_bnd (.mk xd xn xt xks) hx p (.mk kd nm t ks) hk h2
     have hqz : sizeT (putT (.mk kd nm t ks) p (.mk xd xn xt xks)) ≤ 2000000 := by have := putT_size (.mk xd xn xt xks) p (.mk kd nm t ks) h2; omega
     obtain ⟨q, hq⟩ : ∃ q, putT (.mk kd nm t ks) p (.mk xd xn xt xks) = q := ⟨_, rfl⟩
     obtain ⟨qd, qn, qt, qks⟩ := q
     rw [hq] at hput hqb hqz
     refine AWP.skip ?_
     refine AWP.seq ?_
     refine AWP.region ?_
     refine Y (Yields.load_ptr_agg (j := 3) kd30 rfl rfl rfl rfl) rfl ?_
     refine Y (mv rfl) rfl ?_
     refine Y (Yields.load_ptr_agg (j := 2) kd30 rfl rfl rfl rfl) rfl ?_
     refine AOps.callH (.inl trivial) (hput) rfl rfl rfl (WkL.refl _) ?_
     rintro _ _ ⟨Bc, rfl, rfl⟩
     refine AOps.alloc rfl z30 rfl rfl fun b2 => ?_
     refine AOps.store (j := 0) kd30 rfl rfl rfl rfl rfl rfl ?_
     refine AOps.nil ?_
     refine AWP.seq ?_
     refine AWP.seq ?_
     refine AWP.region ?_
     refine Y (Yields.load_ptr_agg (j := 0) kd30 rfl rfl rfl rfl) rfl ?_
     refine AOps.call (iExprOk_AF' (.mk qd qn qt qks) hqb) rfl rfl ⟨bor_avT (.mk qd qn qt qks) (j := 1) rfl, trivial⟩ rfl Free.val ?_
     refine Y (Yields.not rfl) rfl ?_
     refine AOps.nil ?_
     refine AWP.condT rfl (fun h3 => ?_) (fun h3 => ?_)
     ·
      skip
      refine AWP.seq ?_
      refine AWP.region ?_
      have h3 : putB (.mk kd nm t ks) p (.mk xd xn xt xks) = false := by rw [putB, h, hx2, h2, hq]; simp at h3; simp [h3]
      refine Y (Yields.build pl30 z30 rfl rfl) rfl ?_
      refine AOps.store (j := 3) kd30 rfl rfl rfl rfl rfl rfl ?_
      refine Y (ass rfl) rfl ?_
      refine AOps.nil ?_
      refine AWP.leads (Leads.rowWk 3 0 rfl rfl (Wk.agg (ps := [_, _, _, .loc none 0 0 0 4]) ⟨Wk.refl _, Wk.refl _, Wk.refl _, Wk.nilLoc (n := 4), trivial⟩)) ?_
      refine AWP.leads (Leads.row0 4) ?_
      refine AWP.ret ⟨.inl rfl, ?_⟩
      exact RetH.of (rs := [.cell 6 30, .tmp 7]) (vs := [_, _]) rfl ⟨resOne.cell (j := 4) rfl rfl kd30 rfl rfl rfl, rfl, trivial⟩ (KeepR.cons 0 rfl KeepR.nil) (⟨none, by rw [putE_no h3, h3]; rfl, by rw [putE_no h3]; rfl⟩)
     ·
      skip
      have h3 : putB (.mk kd nm t ks) p (.mk xd xn xt xks) = true := by rw [putB, h, hx2, h2, hq]; simpa using h3
      refine AWP.skip ?_
      refine AWP.seq ?_
      refine AWP.region ?_
      refine Y (Yields.load_ptr_agg (j := 0) kd30 rfl rfl rfl rfl) rfl ?_
      refine AOps.store (j := 3) kd30 rfl rfl rfl rfl rfl rfl ?_
      refine Y (ass rfl) rfl ?_
      refine AOps.nil ?_
      refine AWP.ret ⟨.inl rfl, ?_⟩
      exact RetH.of (rs := [.cell 6 30, .tmp 7]) (vs := [_, _]) rfl ⟨resOne.cell (j := 3) rfl rfl kd30 rfl rfl rfl, rfl, trivial⟩ (KeepR.cons 1 rfl KeepR.nil) (⟨Bc, by rw [putE, if_pos h3, h3, hq]; rfl, by rw [putE, if_pos h3, hq]⟩)
theorem sExprPut_AH (k x : Tr) (hk : k.bnd 1000000) (hz : sizeT k + sizeT x ≤ 2000000) (hx : x.bnd 1000000) (p : List Int) (hp : p.length ≤ 1000000) : FnH 34 [] [k.av, .ro 1 (ints p) [] false, x.av] (ownTP (putE k p x) (putB k p x)) := by
  obtain ⟨kd, nm, t, ks⟩ := k
  obtain ⟨xd, xn, xt, xks⟩ := x
  have hz0 := hz
  have hzp1 := sizeT_pos (.mk kd nm t ks)
  have hzp2 := sizeT_pos (.mk xd xn xt xks)
  have hz : sizeT (.mk kd nm t ks) ≤ 2000000 := by omega
  have hzx : sizeT (.mk xd xn xt xks) ≤ 2000000 := by omega
  refine AH.intro Try.func34 nm34 rfl rfl rfl fun w0 ok0 own0 => ?_
  refine AWP.seq ?_
  refine AWP.region ?_
  refine AOps.box rfl rfl rfl rfl fun b3 => ?_
  refine AOps.box rfl rfl rfl rfl fun b5 => ?_
  refine AOps.alloc rfl z30 rfl rfl fun b6 => ?_
  refine Y (ass rfl) rfl ?_
  refine AOps.nil ?_
  refine AWP.seq ?_
  refine AWP.seq ?_
  refine AWP.region ?_
  refine Y (Yields.load_ptr_agg (j := 2) kd30 rfl rfl rfl rfl) rfl ?_
  refine AOps.callro (sExprOk_AF (.mk kd nm t ks) hk hz) rfl rfl rfl ?_
  refine Y (Yields.not rfl) rfl ?_
  refine Y (mv rfl) rfl ?_
  refine AOps.split 14 rfl (fun h => ?_) (fun h => ?_)
  ·
   skip
   have h : putB (.mk kd nm t ks) p (.mk xd xn xt xks) = false := by rw [putB]; simp at h; rw [h]; rfl
   refine AOps.off' rfl rfl rfl rfl ?_
   refine AOps.off' rfl rfl rfl rfl ?_
   refine AOps.off' rfl rfl rfl rfl ?_
   refine Y (Yields.pick_true rfl rfl) rfl ?_
   refine AOps.nil ?_
   refine AWP.cond rfl (fun _ => ?_) (fun h => absurd h (by decide))
   refine AWP.seq ?_
   refine AWP.region ?_
   refine Y (Yields.build pl30 z30 rfl rfl) rfl ?_
   refine AOps.store (j := 0) kd30 rfl rfl rfl rfl rfl rfl ?_
   refine Y (ass rfl) rfl ?_
   refine AOps.nil ?_
   refine AWP.leads (Leads.rowWk 0 0 rfl rfl (Wk.agg (ps := [_, _, _, .loc none 0 0 0 4]) ⟨Wk.refl _, Wk.refl _, Wk.refl _, Wk.nilLoc (n := 4), trivial⟩)) ?_
   refine AWP.leads (Leads.row0 4) ?_
   refine AWP.ret ⟨.inl rfl, ?_⟩
   exact RetH.of (rs := [.cell 6 30, .tmp 7]) (vs := [_, _]) rfl ⟨resOne.cell (j := 1) rfl rfl kd30 rfl rfl rfl, rfl, trivial⟩ (KeepR.cons 0 rfl KeepR.nil) (⟨none, by rw [putE_no h, h]; rfl, by rw [putE_no h]; rfl⟩)
  ·
   skip
   have h : okE (.mk kd nm t ks) = true := by simpa using h
   refine AOps.on rfl rfl ?_
   refine Y (Yields.load_ptr_agg (j := 1) kd30 rfl rfl rfl rfl) rfl ?_
   refine AOps.on rfl rfl ?_
   refine AOps.callro (sExprOk_AF (.mk xd xn xt xks) hx hzx) rfl rfl rfl ?_
   refine AOps.on rfl rfl ?_
   refine Y (Yields.not rfl) rfl ?_
   refine Y (Yields.pick_false rfl rfl) rfl ?_
   refine AOps.nil ?_
   refine AWP.condT rfl (fun hx2 => ?_) (fun hx2 => ?_)
   ·
    skip
    refine AWP.seq ?_
    refine AWP.region ?_
    have hx2 : putB (.mk kd nm t ks) p (.mk xd xn xt xks) = false := by rw [putB, h]; simp at hx2; rw [hx2]; rfl
    refine Y (Yields.build pl30 z30 rfl rfl) rfl ?_
    refine AOps.store (j := 0) kd30 rfl rfl rfl rfl rfl rfl ?_
    refine Y (ass rfl) rfl ?_
    refine AOps.nil ?_
    refine AWP.leads (Leads.rowWk 0 0 rfl rfl (Wk.agg (ps := [_, _, _, .loc none 0 0 0 4]) ⟨Wk.refl _, Wk.refl _, Wk.refl _, Wk.nilLoc (n := 4), trivial⟩)) ?_
    refine AWP.leads (Leads.row0 4) ?_
    refine AWP.ret ⟨.inl rfl, ?_⟩
    exact RetH.of (rs := [.cell 6 30, .tmp 7]) (vs := [_, _]) rfl ⟨resOne.cell (j := 1) rfl rfl kd30 rfl rfl rfl, rfl, trivial⟩ (KeepR.cons 0 rfl KeepR.nil) (⟨none, by rw [putE_no hx2, hx2]; rfl, by rw [putE_no hx2]; rfl⟩)
   ·
    skip
    have hx2 : okE (.mk xd xn xt xks) = true := by simpa using hx2
    have hat := spart_AF (.mk kd nm t ks) hk p hp
    obtain ⟨y, hy⟩ : ∃ y, atV (.mk kd nm t ks) p = y := ⟨_, rfl⟩
    obtain ⟨yd, yn, yt, yks⟩ := y
    rw [hy] at hat
    refine AWP.skip ?_
    refine AWP.seq ?_
    refine AWP.seq ?_
    refine AWP.region ?_
    refine Y (Yields.load_ptr_agg (j := 2) kd30 rfl rfl rfl rfl) rfl ?_
    refine Y (mv rfl) rfl ?_
    refine AOps.callro (hat) rfl rfl rfl ?_
    refine Y (mv rfl) rfl ?_
    refine Y (Yields.extract rfl rfl) rfl ?_
    refine Y (Yields.extract rfl rfl) rfl ?_
    refine AOps.alloc rfl z30 rfl rfl fun b1 => ?_
    refine AOps.store (j := 0) kd30 rfl rfl rfl rfl rfl rfl ?_
    refine Y (ass rfl) rfl ?_
    refine AOps.nil ?_
    refine AWP.seq ?_
    refine AWP.region ?_
    refine Y (mv rfl) rfl ?_
    refine Y (Yields.not rfl) rfl ?_
    refine AOps.nil ?_
    refine AWP.condT rfl (fun h2 => ?_) (fun h2 => ?_)
    ·
     skip
     refine AWP.seq ?_
     refine AWP.region ?_
     have h2 : putB (.mk kd nm t ks) p (.mk xd xn xt xks) = false := by rw [putB, h, hx2]; simp at h2; simp [h2]
     refine Y (Yields.build pl30 z30 rfl rfl) rfl ?_
     refine AOps.store (j := 1) kd30 rfl rfl rfl rfl rfl rfl ?_
     refine Y (ass rfl) rfl ?_
     refine AOps.nil ?_
     refine AWP.leads (Leads.rowWk 1 0 rfl rfl (Wk.agg (ps := [_, _, _, .loc none 0 0 0 4]) ⟨Wk.refl _, Wk.refl _, Wk.refl _, Wk.nilLoc (n := 4), trivial⟩)) ?_
     refine AWP.leads (Leads.row0 4) ?_
     refine AWP.ret ⟨.inl rfl, ?_⟩
     exact RetH.of (rs := [.cell 6 30, .tmp 7]) (vs := [_, _]) rfl ⟨resOne.cell (j := 2) rfl rfl kd30 rfl rfl rfl, rfl, trivial⟩ (KeepR.cons 0 rfl KeepR.nil) (⟨none, by rw [putE_no h2, h2]; rfl, by rw [putE_no h2]; rfl⟩)
    ·
     skip
     have h2 : (atT (.mk kd nm t ks) p).isSome = true := by simpa using h2
     have hput := sput_AH (.mk xd xn xt xks) hx p (.mk kd nm t ks) hk h2 hp
     have hqb := putT_bnd (.mk xd xn xt xks) hx p (.mk kd nm t ks) hk h2
     have hqz : sizeT (putT (.mk kd nm t ks) p (.mk xd xn xt xks)) ≤ 2000000 := by have := putT_size (.mk xd xn xt xks) p (.mk kd nm t ks) h2; omega
     obtain ⟨q, hq⟩ : ∃ q, putT (.mk kd nm t ks) p (.mk xd xn xt xks) = q := ⟨_, rfl⟩
     obtain ⟨qd, qn, qt, qks⟩ := q
     rw [hq] at hput hqb hqz
     refine AWP.skip ?_
     refine AWP.seq ?_
     refine AWP.region ?_
     refine Y (Yields.load_ptr_agg (j := 3) kd30 rfl rfl rfl rfl) rfl ?_
     refine Y (mv rfl) rfl ?_
     refine Y (Yields.load_ptr_agg (j := 2) kd30 rfl rfl rfl rfl) rfl ?_
     refine AOps.callH (.inl trivial) (hput) rfl rfl rfl (WkL.refl _) ?_
     rintro _ _ ⟨Bc, rfl, rfl⟩
     refine AOps.alloc rfl z30 rfl rfl fun b2 => ?_
     refine AOps.store (j := 0) kd30 rfl rfl rfl rfl rfl rfl ?_
     refine AOps.nil ?_
     refine AWP.seq ?_
     refine AWP.seq ?_
     refine AWP.region ?_
     refine Y (Yields.load_ptr_agg (j := 0) kd30 rfl rfl rfl rfl) rfl ?_
     refine AOps.call (sExprOk_AF (.mk qd qn qt qks) hqb hqz) rfl rfl ⟨bor_avT (.mk qd qn qt qks) (j := 1) rfl, trivial⟩ rfl Free.val ?_
     refine Y (Yields.not rfl) rfl ?_
     refine AOps.nil ?_
     refine AWP.condT rfl (fun h3 => ?_) (fun h3 => ?_)
     ·
      skip
      refine AWP.seq ?_
      refine AWP.region ?_
      have h3 : putB (.mk kd nm t ks) p (.mk xd xn xt xks) = false := by rw [putB, h, hx2, h2, hq]; simp at h3; simp [h3]
      refine Y (Yields.build pl30 z30 rfl rfl) rfl ?_
      refine AOps.store (j := 3) kd30 rfl rfl rfl rfl rfl rfl ?_
      refine Y (ass rfl) rfl ?_
      refine AOps.nil ?_
      refine AWP.leads (Leads.rowWk 3 0 rfl rfl (Wk.agg (ps := [_, _, _, .loc none 0 0 0 4]) ⟨Wk.refl _, Wk.refl _, Wk.refl _, Wk.nilLoc (n := 4), trivial⟩)) ?_
      refine AWP.leads (Leads.row0 4) ?_
      refine AWP.ret ⟨.inl rfl, ?_⟩
      exact RetH.of (rs := [.cell 6 30, .tmp 7]) (vs := [_, _]) rfl ⟨resOne.cell (j := 4) rfl rfl kd30 rfl rfl rfl, rfl, trivial⟩ (KeepR.cons 0 rfl KeepR.nil) (⟨none, by rw [putE_no h3, h3]; rfl, by rw [putE_no h3]; rfl⟩)
     ·
      skip
      have h3 : putB (.mk kd nm t ks) p (.mk xd xn xt xks) = true := by rw [putB, h, hx2, h2, hq]; simpa using h3
      refine AWP.skip ?_
      refine AWP.seq ?_
      refine AWP.region ?_
      refine Y (Yields.load_ptr_agg (j := 0) kd30 rfl rfl rfl rfl) rfl ?_
      refine AOps.store (j := 3) kd30 rfl rfl rfl rfl rfl rfl ?_
      refine Y (ass rfl) rfl ?_
      refine AOps.nil ?_
      refine AWP.ret ⟨.inl rfl, ?_⟩
      exact RetH.of (rs := [.cell 6 30, .tmp 7]) (vs := [_, _]) rfl ⟨resOne.cell (j := 3) rfl rfl kd30 rfl rfl rfl, rfl, trivial⟩ (KeepR.cons 1 rfl KeepR.nil) (⟨Bc, by rw [putE, if_pos h3, h3, hq]; rfl, by rw [putE, if_pos h3, hq]⟩)
theorem sExprPut_AF (k x : Tr) (hk : k.bnd 1000000) (hz : sizeT k + sizeT x ≤ 2000000) (hx : x.bnd 1000000) (p : List Int) (hp : p.length ≤ 1000000) : Fn 34 [k.av, .ro 1 (ints p) [] false, x.av] (.tup [(putE k p x).av, bool (putB k p x)]) :=
  AH.toF (by simp [plainL, plainV, Tr.plain_av]) (sExprPut_AH k x hk hz hx p hp) (fun r hp' h => ownTP.fz h)
theorem iExprPut_AF (k x : Tr) (hk : k.bnd 1000000) (hz : sizeT k + sizeT x ≤ 2000000) (hx : x.bnd 1000000) (p : List Int) (hp : p.length ≤ 1000000) : Fn 35 [k.av, .ro 1 (ints p) [] false, x.av] (.tup [(putE k p x).av, bool (putB k p x)]) :=
  AH.toF (by simp [plainL, plainV, Tr.plain_av]) (iExprPut_AH k x hk hz hx p hp) (fun r hp' h => ownTP.fz h)
theorem sbinds_AF (kd nm : Int) (t : ByteArray) (ks : List Tr) (i : Int) : Fn 78 [Tr.av (.mk kd nm t ks), int i] (bool (bindsB kd && decide (i = 1))) := by
  refine AF.intro Try.func78 nm78 rfl rfl rfl rfl fun w0 ok0 => ?_
  refine AWP.seq ?_
  refine AWP.region ?_
  refine AOps.box rfl rfl rfl rfl fun b1 => ?_
  refine Y (ass rfl) rfl ?_
  refine AOps.nil ?_
  refine AWP.seq ?_
  refine AWP.region ?_
  refine Y (Yields.fieldAddr_ptr fo30_0 rfl) rfl ?_
  refine Y (Yields.load_ptr_field (j := 0) kd3 rfl rfl rfl rfl rfl rfl rfl) rfl ?_
  refine Y (bn rfl rfl BinR.eql rfl) rfl ?_
  refine Y (mv rfl) rfl ?_
  refine AOps.split 8 rfl (fun h => ?_) (fun h => ?_)
  ·
   replace h := eq_of_beq h
   refine AOps.off' rfl rfl rfl rfl ?_
   refine AOps.off' rfl rfl rfl rfl ?_
   refine AOps.off' rfl rfl rfl rfl ?_
   refine Y (Yields.pick_true rfl rfl) rfl ?_
   refine Y (mv rfl) rfl ?_
   refine AOps.on rfl rfl ?_
   refine Y (mv rfl) rfl ?_
   refine AOps.on rfl rfl ?_
   refine Y (bn rfl rfl BinR.eql rfl) rfl ?_
   refine Y (Yields.pick_true rfl rfl) rfl ?_
   refine Y (ass rfl) rfl ?_
   refine AOps.nil ?_
   refine AWP.ret ⟨.inl rfl, ?_⟩
   exact RetIs.oneV rfl rfl (congrArg (fun b => AV.val (Value.bool b)) (by rw [Bool.eq_iff_iff]; first | (simp [bindsB, h]; done) | (simp [bindsB, h]; omega) | (simp_all [bindsB, h]; done) | (simp_all [bindsB, h]; omega) | (simp_all [bindsB, h]; intros; omega)))
  ·
   replace h := ne_of_beq_false h
   refine AOps.on rfl rfl ?_
   refine Y (Yields.fieldAddr_ptr fo30_0 rfl) rfl ?_
   refine AOps.on rfl rfl ?_
   refine Y (Yields.load_ptr_field (j := 0) kd3 rfl rfl rfl rfl rfl rfl rfl) rfl ?_
   refine AOps.on rfl rfl ?_
   refine Y (bn rfl rfl BinR.eql rfl) rfl ?_
   refine Y (Yields.pick_false rfl rfl) rfl ?_
   refine Y (mv rfl) rfl ?_
   refine AOps.split 13 rfl (fun h2 => ?_) (fun h2 => ?_)
   ·
    replace h2 := eq_of_beq h2
    refine AOps.on rfl rfl ?_
    refine Y (mv rfl) rfl ?_
    refine AOps.on rfl rfl ?_
    refine Y (bn rfl rfl BinR.eql rfl) rfl ?_
    refine Y (Yields.pick_true rfl rfl) rfl ?_
    refine Y (ass rfl) rfl ?_
    refine AOps.nil ?_
    refine AWP.ret ⟨.inl rfl, ?_⟩
    exact RetIs.oneV rfl rfl (congrArg (fun b => AV.val (Value.bool b)) (by rw [Bool.eq_iff_iff]; first | (simp [bindsB, h, h2]; done) | (simp [bindsB, h, h2]; omega) | (simp_all [bindsB, h, h2]; done) | (simp_all [bindsB, h, h2]; omega) | (simp_all [bindsB, h, h2]; intros; omega)))
   ·
    replace h2 := ne_of_beq_false h2
    refine AOps.off' rfl rfl rfl rfl ?_
    refine AOps.off' rfl rfl rfl rfl ?_
    refine Y (Yields.pick_false rfl rfl) rfl ?_
    refine Y (ass rfl) rfl ?_
    refine AOps.nil ?_
    refine AWP.ret ⟨.inl rfl, ?_⟩
    exact RetIs.oneV rfl rfl (congrArg (fun b => AV.val (Value.bool b)) (by rw [Bool.eq_iff_iff]; first | (simp [bindsB, h, h2]; done) | (simp [bindsB, h, h2]; omega) | (simp_all [bindsB, h, h2]; done) | (simp_all [bindsB, h, h2]; omega) | (simp_all [bindsB, h, h2]; intros; omega)))
def locT : Tr → List Int → List ByteArray
  | _, [] => []
  | .mk k _ t ks, i :: p => (if bindsB k = true ∧ i = 1 then [t] else []) ++ (match ks[i.toNat]? with | some y => locT y p | none => [])
theorem locT_step {k n : Int} {t : ByteArray} {ks : List Tr} {i : Int} {p : List Int} {y : Tr} (h : ks[i.toNat]? = some y) : locT (.mk k n t ks) (i :: p) = (if bindsB k = true ∧ i = 1 then [t] else []) ++ locT y p := by rw [locT, h]
theorem locT_length : ∀ (p : List Int) (k : Tr), (locT k p).length ≤ p.length
  | [], k => by rw [locT]; simp
  | i :: p, .mk a b c ks => by
    rw [locT, List.length_append]
    have h1 : (if bindsB a = true ∧ i = 1 then [c] else []).length ≤ 1 := by split <;> simp
    have h2 : (match ks[i.toNat]? with | some y => locT y p | none => []).length ≤ p.length := by
      split
      · exact locT_length p _
      · simp
    simp only [List.length_cons]; omega
theorem ilocals_AH (k : Tr) (hk : k.bnd 1000000) (p : List Int) (hp : p.length ≤ 1000000) (hs : (atT k p).isSome = true) : FnH 63 [] [k.av, .ro 1 (ints p) [] false] (ownS (locT k p)) := by
  obtain ⟨kd, nm, t, ks⟩ := k
  have hlp := ints_length p
  refine AH.intro Try.func63 nm63 rfl rfl rfl fun w0 ok0 own0 => ?_
  refine AWP.seq ?_
  refine AWP.region ?_
  refine AOps.box rfl rfl rfl rfl fun b1 => ?_
  refine Y (ass rfl) rfl ?_
  refine AOps.nil ?_
  refine AWP.seq ?_
  refine AWP.region ?_
  refine Y (ass rfl) rfl ?_
  refine AOps.nil ?_
  refine AWP.leads (Leads.own0 5 1 rfl) ?_
  refine AWP.seq ?_
  refine AWP.seq ?_
  refine AWP.region ?_
  refine Y (mv rfl) rfl ?_
  refine Y (Yields.len_ro sl41 rfl) rfl ?_
  refine Y (mv rfl) rfl ?_
  refine AOps.nil ?_
  refine AWP.block ?_
  refine AWP.loopV (α := Tr × Nat × Option Nat × List ByteArray) (fun pp : Tr × Nat × Option Nat × List ByteArray => match pp with | (x, i, B, l) => ⟨[(2, .ptr (some b1) 0 0 4), (5, .loc B 0 l.length l.length 1), (8, .ro 1 (ints p) [] false), (9, int (ints p).length), (10, int i)], [(some b1, ⟨4, [x.av]⟩), (B, ⟨1, strs l⟩)]⟩) (fun pp : Tr × Nat × Option Nat × List ByteArray => match pp with | (x, i, B, l) => x.bnd 1000000 ∧ i ≤ p.length ∧ (atT x (p.drop i)).isSome = true ∧ l.length ≤ i ∧ l ++ locT x (p.drop i) = locT (.mk kd nm t ks) p) (fun pp : Tr × Nat × Option Nat × List ByteArray => match pp with | (x, i, B, l) => p.length - i) ((Tr.mk kd nm t ks, 0, none, [])) ?_ ?_ ?_
  · exact Leads.keepR (KeepR.cons 1 rfl (KeepR.cons 0 rfl KeepR.nil)) ⟨rfl, rfl, rfl, rfl, rfl, trivial⟩
  ·
   show (Tr.mk kd nm t ks).bnd 1000000 ∧ 0 ≤ p.length ∧ (atT (Tr.mk kd nm t ks) (p.drop 0)).isSome = true ∧ ([]).length ≤ 0 ∧ ([]) ++ locT (Tr.mk kd nm t ks) (p.drop 0) = locT (.mk kd nm t ks) p
   exact ⟨hk, Nat.zero_le _, by rw [List.drop_zero]; exact hs, Nat.zero_le _, by rw [List.drop_zero]; rfl⟩
  ·
   rintro ⟨x, i, B, l⟩ hinv
   replace hinv : x.bnd 1000000 ∧ i ≤ p.length ∧ (atT x (p.drop i)).isSome = true ∧ l.length ≤ i ∧ l ++ locT x (p.drop i) = locT (.mk kd nm t ks) p := hinv
   show AWP _ _ _ _ ⟨[(2, .ptr (some b1) 0 0 4), (5, .loc B 0 l.length l.length 1), (8, .ro 1 (ints p) [] false), (9, int (ints p).length), (10, int i)], [(some b1, ⟨4, [x.av]⟩), (B, ⟨1, strs l⟩)]⟩
   refine AWP.seq ?_
   refine AWP.region ?_
   obtain ⟨xd, xn, xt, xks⟩ := x
   obtain ⟨hb, hi, hat, hll, hl⟩ := hinv
   simp only [Tr.bnd] at hb
   have hlx := Tr.avs_length xks
   refine Y (bn rfl rfl BinR.lss rfl) rfl ?_
   refine AOps.nil ?_
   refine AWP.seq ?_
   refine AWP.condT rfl (fun g => ?_) (fun g => ?_)
   ·
    replace g := of_decide_eq_true g
    obtain ⟨n, hn, hd⟩ := drop_at (l := p) (i := i) (by omega)
    rw [hd] at hat hl
    obtain ⟨h0, h1, y, hy, hys⟩ := at_cons hat
    rw [locT_step hy, ← List.append_assoc] at hl
    refine AWP.skip ?_
    refine AWP.seq ?_
    refine AWP.block ?_
    refine AWP.seq ?_
    refine AWP.region ?_
    refine Y (Yields.idx_roN sl41 rfl rfl rfl rfl (by omega)) rfl ?_
    refine Y (Yields.load_rop_one kd3 rfl (ints_at hn) rfl) rfl ?_
    refine Y (ass rfl) rfl ?_
    refine AOps.nil ?_
    refine AWP.midE (α := Option Nat × List ByteArray) (fun pp : Option Nat × List ByteArray => match pp with | (B2, l2) => ⟨[(2, .ptr (some b1) 0 0 4), (5, .loc B2 0 l2.length l2.length 1), (7, int n), (8, .ro 1 (ints p) [] false), (9, int (ints p).length), (10, int i)], [(some b1, ⟨4, [Tr.av (.mk xd xn xt xks)]⟩), (B2, ⟨1, strs l2⟩)]⟩) (fun pp : Option Nat × List ByteArray => match pp with | (B2, l2) => l2 = l ++ (if bindsB xd = true ∧ n = 1 then [xt] else [])) ?_ ?_
    ·
     skip
     refine AWP.seq ?_
     refine AWP.region ?_
     refine Y (Yields.load_ptr_agg (j := 0) kd30 rfl rfl rfl rfl) rfl ?_
     refine AOps.callro (binds_AF xd xn xt xks) rfl rfl rfl ?_
     refine Y (mv rfl) rfl ?_
     refine AOps.split 16 rfl (fun c1 => ?_) (fun c1 => ?_)
     ·
      skip
      refine AOps.on rfl rfl ?_
      refine Y (mv rfl) rfl ?_
      refine AOps.on rfl rfl ?_
      refine Y (bn rfl rfl BinR.eql rfl) rfl ?_
      refine Y (Yields.pick_true rfl rfl) rfl ?_
      refine AOps.nil ?_
      refine AWP.condT rfl (fun c2 => ?_) (fun c2 => ?_)
      ·
       replace c2 := eq_of_beq c2
       refine AWP.region ?_
       refine Y (mv rfl) rfl ?_
       refine Y (Yields.fieldAddr_ptr fo30_2 rfl) rfl ?_
       refine Y (Yields.load_ptr_field (j := 0) kd9 rfl rfl rfl rfl rfl rfl rfl) rfl ?_
       refine AOps.buildSlice sl37 z9 rfl rfl rfl rfl rfl fun bs => ?_
       refine AOps.appendE (j := 2) sl37 z9 rfl rfl rfl rfl rfl (by simp [strs]) rfl (src_row (j2 := 0) rfl rfl rfl) (len_app l xt) (strs_app l xt) (by simp; omega) (by simp; omega) fun Bn => ?_
       refine Y (ass rfl) rfl ?_
       refine AOps.nil ?_
       refine ⟨(Bn, l ++ [xt]), ?_, ?_⟩
       ·
        show (l ++ [xt]) = l ++ (if bindsB xd = true ∧ n = 1 then [xt] else [])
        rw [if_pos ⟨c1, c2⟩]
       · exact Leads.keepR (KeepR.cons 1 rfl (KeepR.cons 1 rfl KeepR.nil)) ⟨rfl, rfl, rfl, rfl, rfl, rfl, trivial⟩
      ·
       replace c2 := ne_of_beq_false c2
       refine AWP.skip ?_
       refine ⟨(B, l), ?_, ?_⟩
       ·
        show l = l ++ (if bindsB xd = true ∧ n = 1 then [xt] else [])
        rw [if_neg (fun q => c2 q.2), List.append_nil]
       · exact Leads.keepR (KeepR.cons 0 rfl (KeepR.cons 0 rfl KeepR.nil)) ⟨rfl, rfl, rfl, rfl, rfl, rfl, trivial⟩
     ·
      skip
      refine AOps.off' rfl rfl rfl rfl ?_
      refine AOps.off' rfl rfl rfl rfl ?_
      refine Y (Yields.pick_false rfl rfl) rfl ?_
      refine AOps.nil ?_
      refine AWP.cond rfl (fun h => absurd h (by decide)) (fun _ => ?_)
      refine AWP.skip ?_
      refine ⟨(B, l), ?_, ?_⟩
      ·
       show l = l ++ (if bindsB xd = true ∧ n = 1 then [xt] else [])
       rw [if_neg (fun q => by rw [c1] at q; cases q.1), List.append_nil]
      · exact Leads.keepR (KeepR.cons 0 rfl (KeepR.cons 0 rfl KeepR.nil)) ⟨rfl, rfl, rfl, rfl, rfl, rfl, trivial⟩
    ·
     rintro ⟨B2, l2⟩ hinv
     replace hinv : l2 = l ++ (if bindsB xd = true ∧ n = 1 then [xt] else []) := hinv
     show AWP _ _ _ _ ⟨[(2, .ptr (some b1) 0 0 4), (5, .loc B2 0 l2.length l2.length 1), (7, int n), (8, .ro 1 (ints p) [] false), (9, int (ints p).length), (10, int i)], [(some b1, ⟨4, [Tr.av (.mk xd xn xt xks)]⟩), (B2, ⟨1, strs l2⟩)]⟩
     refine AWP.region ?_
     rw [← hinv] at hl
     have hl2 : l2.length ≤ i + 1 := by rw [hinv, List.length_append]; split <;> simp <;> omega
     refine Y (Yields.fieldAddr_ptr fo30_3 rfl) rfl ?_
     refine Y (Yields.load_ptr_field (j := 0) kd28 rfl rfl rfl rfl rfl rfl rfl) rfl ?_
     refine Y (mv rfl) rfl ?_
     refine Y (Yields.idx_roN sl28 rfl rfl rfl (j := n.toNat) (by omega) (by omega)) rfl ?_
     refine Y (Yields.load_rop_aggV kd30 rfl (Tr.avs_at hy) (Tr.av_agg y)) rfl ?_
     refine AOps.store (j := 0) kd30 rfl rfl rfl rfl (Tr.av_cell y) (Tr.av_width y) ?_
     refine AOps.nil ?_
     refine AWP.region ?_
     refine Y (bn rfl rfl (BinR.addI (by omega) (by omega)) rfl) rfl ?_
     refine Y (mv rfl) rfl ?_
     refine AOps.nil ?_
     refine ⟨(y, i + 1, B2, l2), ?_, ?_, ?_⟩
     ·
      show p.length - (i + 1) < p.length - i
      omega
     ·
      show y.bnd 1000000 ∧ (i + 1) ≤ p.length ∧ (atT y (p.drop (i + 1))).isSome = true ∧ l2.length ≤ (i + 1) ∧ l2 ++ locT y (p.drop (i + 1)) = locT (.mk kd nm t ks) p
      exact ⟨Tr.bnds_get hb.2.2 hy, by omega, hys, hl2, hl⟩
     · exact Leads.keepR (KeepR.cons 0 rfl (KeepR.cons 0 rfl KeepR.nil)) ⟨rfl, rfl, rfl, rfl, rfl, trivial⟩
   ·
    replace g := of_decide_eq_false g
    rw [List.drop_eq_nil_of_le (by omega), locT, List.append_nil] at hl
    refine AWP.exit ?_
    refine AWP.seq ?_
    refine AWP.region ?_
    refine Y (mv rfl) rfl ?_
    refine Y (ass rfl) rfl ?_
    refine AOps.nil ?_
    refine AWP.ret ⟨.inl rfl, ?_⟩
    exact RetH.of (rs := [.tmp 4]) (vs := [_]) rfl ⟨rfl, trivial⟩ (KeepR.cons 1 rfl KeepR.nil) (⟨B, by rw [hl]; rfl, by rw [hl]⟩)
theorem saround_AH (k : Tr) (hk : k.bnd 1000000) (p : List Int) (hp : p.length ≤ 1000000) (hs : (atT k p).isSome = true) : FnH 62 [] [k.av, .ro 1 (ints p) [] false] (ownS (locT k p)) := by
  obtain ⟨kd, nm, t, ks⟩ := k
  have hlp := ints_length p
  refine AH.intro Try.func62 nm62 rfl rfl rfl fun w0 ok0 own0 => ?_
  refine AWP.seq ?_
  refine AWP.region ?_
  refine AOps.box rfl rfl rfl rfl fun b1 => ?_
  refine Y (ass rfl) rfl ?_
  refine AOps.nil ?_
  refine AWP.seq ?_
  refine AWP.region ?_
  refine AOps.buildSlice sl37 z9 rfl rfl rfl rfl rfl fun b0 => ?_
  refine Y (ass rfl) rfl ?_
  refine AOps.nil ?_
  refine AWP.seq ?_
  refine AWP.seq ?_
  refine AWP.region ?_
  refine Y (ass rfl) rfl ?_
  refine AOps.nil ?_
  refine AWP.block ?_
  refine AWP.loopV (α := Tr × Nat × Option Nat × List ByteArray) (fun pp : Tr × Nat × Option Nat × List ByteArray => match pp with | (x, i, B, l) => ⟨[(1, .ro 1 (ints p) [] false), (2, .ptr (some b1) 0 0 4), (5, .loc B 0 l.length l.length 1), (6, int i)], [(some b1, ⟨4, [x.av]⟩), (B, ⟨1, strs l⟩)]⟩) (fun pp : Tr × Nat × Option Nat × List ByteArray => match pp with | (x, i, B, l) => x.bnd 1000000 ∧ i ≤ p.length ∧ (atT x (p.drop i)).isSome = true ∧ l.length ≤ i ∧ l ++ locT x (p.drop i) = locT (.mk kd nm t ks) p) (fun pp : Tr × Nat × Option Nat × List ByteArray => match pp with | (x, i, B, l) => p.length - i) ((Tr.mk kd nm t ks, 0, some b0, [])) ?_ ?_ ?_
  · exact Leads.keepR (KeepR.cons 1 rfl (KeepR.cons 0 rfl KeepR.nil)) ⟨rfl, rfl, rfl, rfl, trivial⟩
  ·
   show (Tr.mk kd nm t ks).bnd 1000000 ∧ 0 ≤ p.length ∧ (atT (Tr.mk kd nm t ks) (p.drop 0)).isSome = true ∧ ([]).length ≤ 0 ∧ ([]) ++ locT (Tr.mk kd nm t ks) (p.drop 0) = locT (.mk kd nm t ks) p
   exact ⟨hk, Nat.zero_le _, by rw [List.drop_zero]; exact hs, Nat.zero_le _, by rw [List.drop_zero]; rfl⟩
  ·
   rintro ⟨x, i, B, l⟩ hinv
   replace hinv : x.bnd 1000000 ∧ i ≤ p.length ∧ (atT x (p.drop i)).isSome = true ∧ l.length ≤ i ∧ l ++ locT x (p.drop i) = locT (.mk kd nm t ks) p := hinv
   show AWP _ _ _ _ ⟨[(1, .ro 1 (ints p) [] false), (2, .ptr (some b1) 0 0 4), (5, .loc B 0 l.length l.length 1), (6, int i)], [(some b1, ⟨4, [x.av]⟩), (B, ⟨1, strs l⟩)]⟩
   refine AWP.seq ?_
   refine AWP.seq ?_
   refine AWP.region ?_
   obtain ⟨xd, xn, xt, xks⟩ := x
   obtain ⟨hb, hi, hat, hll, hl⟩ := hinv
   simp only [Tr.bnd] at hb
   have hlx := Tr.avs_length xks
   refine Y (mv rfl) rfl ?_
   refine Y (mv rfl) rfl ?_
   refine Y (Yields.len_ro sl41 rfl) rfl ?_
   refine Y (bn rfl rfl BinR.lss rfl) rfl ?_
   refine AOps.nil ?_
   refine AWP.condT rfl (fun g => ?_) (fun g => ?_)
   ·
    replace g := of_decide_eq_true g
    obtain ⟨n, hn, hd⟩ := drop_at (l := p) (i := i) (by omega)
    rw [hd] at hat hl
    obtain ⟨h0, h1, y, hy, hys⟩ := at_cons hat
    rw [locT_step hy, ← List.append_assoc] at hl
    obtain ⟨yd, yn, yt, yks⟩ := y
    refine AWP.skip ?_
    refine AWP.seq ?_
    refine AWP.block ?_
    refine AWP.midE (α := Option Nat × List ByteArray) (fun pp : Option Nat × List ByteArray => match pp with | (B2, l2) => ⟨[(1, .ro 1 (ints p) [] false), (2, .ptr (some b1) 0 0 4), (5, .loc B2 0 l2.length l2.length 1), (6, int i)], [(some b1, ⟨4, [Tr.av (.mk xd xn xt xks)]⟩), (B2, ⟨1, strs l2⟩)]⟩) (fun pp : Option Nat × List ByteArray => match pp with | (B2, l2) => l2 = l ++ (if bindsB xd = true ∧ n = 1 then [xt] else [])) ?_ ?_
    ·
     skip
     refine AWP.seq ?_
     refine AWP.prune (tm' := [(1, _), (2, _), (5, _), (6, _), (11, _)]) ⟨rfl, rfl, rfl, rfl, rfl, trivial⟩ ?_
     refine AWP.drawn mixed rfl rfl ?_
     refine D (tm' := [(2, _)]) ⟨rfl, trivial⟩ (DStep.yields (Yields.load_ptr_agg (j := 0) kd30 rfl rfl rfl rfl)) rfl ?_
     refine D (tm' := [(1, _)]) ⟨rfl, trivial⟩ (DStep.yields (mv rfl)) rfl ?_
     refine D (tm' := [(6, _)]) ⟨rfl, trivial⟩ (DStep.yields (mv rfl)) rfl ?_
     refine D (tm' := [(15, _), (16, _)]) ⟨rfl, rfl, trivial⟩ (DStep.yields (Yields.idx_roN sl41 rfl rfl rfl rfl (by omega))) rfl ?_
     refine D (tm' := [(17, _)]) ⟨rfl, trivial⟩ (DStep.yields (Yields.load_rop_one kd3 rfl (ints_at hn) rfl)) rfl ?_
     refine D (tm' := [(14, _), (18, _)]) ⟨rfl, rfl, trivial⟩ (DStep.callro (sbinds_AF xd xn xt xks n) rfl rfl) rfl ?_
     refine DOps.nil ?_
     refine AWP.condT rfl (fun c2 => ?_) (fun c2 => ?_)
     ·
      skip
      refine AWP.region ?_
      have c2 : bindsB xd = true ∧ n = 1 := by simpa using c2
      refine Y (mv rfl) rfl ?_
      refine Y (Yields.fieldAddr_ptr fo30_2 rfl) rfl ?_
      refine Y (Yields.load_ptr_field (j := 0) kd9 rfl rfl rfl rfl rfl rfl rfl) rfl ?_
      refine AOps.buildSlice sl37 z9 rfl rfl rfl rfl rfl fun bs => ?_
      refine AOps.appendE (j := 2) sl37 z9 rfl rfl rfl rfl rfl (by simp [strs]) rfl (src_row (j2 := 0) rfl rfl rfl) (len_app l xt) (strs_app l xt) (by simp; omega) (by simp; omega) fun Bn => ?_
      refine Y (ass rfl) rfl ?_
      refine AOps.nil ?_
      refine ⟨(Bn, l ++ [xt]), ?_, ?_⟩
      ·
       show (l ++ [xt]) = l ++ (if bindsB xd = true ∧ n = 1 then [xt] else [])
       rw [if_pos c2]
      · exact Leads.keepR (KeepR.cons 1 rfl (KeepR.cons 1 rfl KeepR.nil)) ⟨rfl, rfl, rfl, rfl, trivial⟩
     ·
      skip
      have c2 : ¬ (bindsB xd = true ∧ n = 1) := by simpa using c2
      refine AWP.skip ?_
      refine ⟨(B, l), ?_, ?_⟩
      ·
       show l = l ++ (if bindsB xd = true ∧ n = 1 then [xt] else [])
       rw [if_neg c2, List.append_nil]
      · exact Leads.keepR (KeepR.cons 0 rfl (KeepR.cons 0 rfl KeepR.nil)) ⟨rfl, rfl, rfl, rfl, trivial⟩
    ·
     rintro ⟨B2, l2⟩ hinv
     replace hinv : l2 = l ++ (if bindsB xd = true ∧ n = 1 then [xt] else []) := hinv
     show AWP _ _ _ _ ⟨[(1, .ro 1 (ints p) [] false), (2, .ptr (some b1) 0 0 4), (5, .loc B2 0 l2.length l2.length 1), (6, int i)], [(some b1, ⟨4, [Tr.av (.mk xd xn xt xks)]⟩), (B2, ⟨1, strs l2⟩)]⟩
     rw [← hinv] at hl
     have hl2 : l2.length ≤ i + 1 := by rw [hinv, List.length_append]; split <;> simp <;> omega
     refine AWP.prune (tm' := [(1, _), (2, _), (5, _), (6, _)]) ⟨rfl, rfl, rfl, rfl, trivial⟩ ?_
     refine AWP.drawnS [] 8 mixed rfl rfl rfl rfl rfl ?_
     refine DU (tm' := [(2, _)]) ⟨rfl, trivial⟩ rfl (DStep.yields (Yields.fieldAddr_ptr fo30_3 rfl)) rfl ?_
     refine DU (tm' := [(25, _)]) ⟨rfl, trivial⟩ rfl (DStep.yields (Yields.load_ptr_field (j := 0) kd28 rfl rfl rfl rfl rfl rfl rfl)) rfl ?_
     refine DU (tm' := [(1, _)]) ⟨rfl, trivial⟩ rfl (DStep.yields (mv rfl)) rfl ?_
     refine DU (tm' := [(6, _)]) ⟨rfl, trivial⟩ rfl (DStep.yields (mv rfl)) rfl ?_
     refine DU (tm' := [(27, _), (28, _)]) ⟨rfl, rfl, trivial⟩ rfl (DStep.yields (Yields.idx_roN sl41 rfl rfl rfl rfl (by omega))) rfl ?_
     refine DU (tm' := [(29, _)]) ⟨rfl, trivial⟩ rfl (DStep.yields (Yields.load_rop_one kd3 rfl (ints_at hn) rfl)) rfl ?_
     refine DU (tm' := [(26, _), (30, _)]) ⟨rfl, rfl, trivial⟩ rfl (DStep.yields (Yields.idx_roN sl28 rfl rfl rfl (j := n.toNat) (by omega) (by omega))) rfl ?_
     refine DU (tm' := [(31, _)]) ⟨rfl, trivial⟩ rfl (DStep.yields (Yields.load_rop_aggV kd30 rfl (Tr.avs_at hy) rfl)) rfl ?_
     refine DOpsU.nil ?_
     refine AOps.store (j := 0) kd30 rfl rfl rfl rfl rfl rfl ?_
     refine AOps.nil ?_
     refine AWP.region ?_
     refine Y (mv rfl) rfl ?_
     refine Y (bn rfl rfl (BinR.addI (by omega) (by omega)) rfl) rfl ?_
     refine Y (ass rfl) rfl ?_
     refine AOps.nil ?_
     refine ⟨(Tr.mk yd yn yt yks, i + 1, B2, l2), ?_, ?_, ?_⟩
     ·
      show p.length - (i + 1) < p.length - i
      omega
     ·
      show (Tr.mk yd yn yt yks).bnd 1000000 ∧ (i + 1) ≤ p.length ∧ (atT (Tr.mk yd yn yt yks) (p.drop (i + 1))).isSome = true ∧ l2.length ≤ (i + 1) ∧ l2 ++ locT (Tr.mk yd yn yt yks) (p.drop (i + 1)) = locT (.mk kd nm t ks) p
      exact ⟨Tr.bnds_get hb.2.2 hy, by omega, hys, hl2, hl⟩
     · exact Leads.keepR (KeepR.cons 0 rfl (KeepR.cons 0 rfl KeepR.nil)) ⟨rfl, rfl, rfl, rfl, trivial⟩
   ·
    replace g := of_decide_eq_false g
    rw [List.drop_eq_nil_of_le (by omega), locT, List.append_nil] at hl
    refine AWP.exit ?_
    refine AWP.seq ?_
    refine AWP.region ?_
    refine Y (mv rfl) rfl ?_
    refine Y (ass rfl) rfl ?_
    refine AOps.nil ?_
    refine AWP.ret ⟨.inl rfl, ?_⟩
    exact RetH.of (rs := [.tmp 4]) (vs := [_]) rfl ⟨rfl, trivial⟩ (KeepR.cons 1 rfl KeepR.nil) (⟨B, by rw [hl]; rfl, by rw [hl]⟩)
def locE (k : Tr) (p : List Int) : List ByteArray := if atB k p = true then locT k p else []
theorem locE_no {k : Tr} {p : List Int} (h : atB k p = false) : locE k p = [] := if_neg (by rw [h]; simp)
theorem locE_length (k : Tr) (p : List Int) : (locE k p).length ≤ p.length := by
  unfold locE
  split
  · exact locT_length p k
  · simp
theorem iLocalsAt_AH (k : Tr) (hk : k.bnd 1000000) (hz : sizeT k ≤ 2000000) (p : List Int) (hp : p.length ≤ 1000000) : FnH 33 [] [k.av, .ro 1 (ints p) [] false] (ownS (locE k p)) := by
  obtain ⟨kd, nm, t, ks⟩ := k
  refine AH.intro Try.func33 nm33 rfl rfl rfl fun w0 ok0 own0 => ?_
  refine AWP.seq ?_
  refine AWP.region ?_
  refine AOps.box rfl rfl rfl rfl fun b1 => ?_
  refine Y (ass rfl) rfl ?_
  refine AOps.nil ?_
  refine AWP.seq ?_
  refine AWP.seq ?_
  refine AWP.region ?_
  refine Y (Yields.load_ptr_agg (j := 0) kd30 rfl rfl rfl rfl) rfl ?_
  refine AOps.callro (iExprOk_AF' (.mk kd nm t ks) hk) rfl rfl rfl ?_
  refine Y (Yields.not rfl) rfl ?_
  refine AOps.nil ?_
  refine AWP.condT rfl (fun h => ?_) (fun h => ?_)
  ·
   skip
   refine AWP.seq ?_
   refine AWP.region ?_
   have h : atB (.mk kd nm t ks) p = false := by rw [atB]; simp at h; rw [h]; rfl
   refine Y (ass rfl) rfl ?_
   refine AOps.nil ?_
   refine AWP.leads (Leads.own0 4 1 rfl) ?_
   refine AWP.ret ⟨.inl rfl, ?_⟩
   exact RetH.of (rs := [.tmp 4]) (vs := [_]) rfl ⟨rfl, trivial⟩ (KeepR.cons 0 rfl KeepR.nil) (⟨none, by rw [locE_no h]; rfl, by rw [locE_no h]; rfl⟩)
  ·
   skip
   have h : okE (.mk kd nm t ks) = true := by simpa using h
   have hat := iat_AF (.mk kd nm t ks) hk p hp
   obtain ⟨y, hy⟩ : ∃ y, atV (.mk kd nm t ks) p = y := ⟨_, rfl⟩
   obtain ⟨yd, yn, yt, yks⟩ := y
   rw [hy] at hat
   refine AWP.skip ?_
   refine AWP.seq ?_
   refine AWP.seq ?_
   refine AWP.region ?_
   refine Y (Yields.load_ptr_agg (j := 0) kd30 rfl rfl rfl rfl) rfl ?_
   refine Y (mv rfl) rfl ?_
   refine AOps.callro (hat) rfl rfl rfl ?_
   refine Y (mv rfl) rfl ?_
   refine Y (Yields.extract rfl rfl) rfl ?_
   refine Y (Yields.extract rfl rfl) rfl ?_
   refine AOps.alloc rfl z30 rfl rfl fun b2 => ?_
   refine AOps.store (j := 0) kd30 rfl rfl rfl rfl rfl rfl ?_
   refine Y (ass rfl) rfl ?_
   refine AOps.nil ?_
   refine AWP.seq ?_
   refine AWP.region ?_
   refine Y (mv rfl) rfl ?_
   refine Y (Yields.not rfl) rfl ?_
   refine AOps.nil ?_
   refine AWP.condT rfl (fun h2 => ?_) (fun h2 => ?_)
   ·
    skip
    refine AWP.seq ?_
    refine AWP.region ?_
    have h2 : atB (.mk kd nm t ks) p = false := by rw [atB, h]; simp at h2; simp [h2]
    refine Y (ass rfl) rfl ?_
    refine AOps.nil ?_
    refine AWP.leads (Leads.own0 4 1 rfl) ?_
    refine AWP.ret ⟨.inl rfl, ?_⟩
    exact RetH.of (rs := [.tmp 4]) (vs := [_]) rfl ⟨rfl, trivial⟩ (KeepR.cons 0 rfl KeepR.nil) (⟨none, by rw [locE_no h2]; rfl, by rw [locE_no h2]; rfl⟩)
   ·
    skip
    have h2 : (atT (.mk kd nm t ks) p).isSome = true := by simpa using h2
    have h3 : atB (.mk kd nm t ks) p = true := by rw [atB, h, h2]; rfl
    refine AWP.skip ?_
    refine AWP.seq ?_
    refine AWP.region ?_
    refine Y (Yields.load_ptr_agg (j := 1) kd30 rfl rfl rfl rfl) rfl ?_
    refine Y (mv rfl) rfl ?_
    refine AOps.callH (.inl trivial) (ilocals_AH (.mk kd nm t ks) hk p hp h2) rfl rfl rfl (WkL.refl _) ?_
    rintro _ _ ⟨Bc, rfl, rfl⟩
    refine Y (ass rfl) rfl ?_
    refine AOps.nil ?_
    refine AWP.ret ⟨.inl rfl, ?_⟩
    exact RetH.of (rs := [.tmp 4]) (vs := [_]) rfl ⟨rfl, trivial⟩ (KeepR.cons 0 rfl KeepR.nil) (⟨Bc, by rw [locE, if_pos h3]; rfl, by rw [locE, if_pos h3]⟩)
theorem sLocalsAt_AH (k : Tr) (hk : k.bnd 1000000) (hz : sizeT k ≤ 2000000) (p : List Int) (hp : p.length ≤ 1000000) : FnH 32 [] [k.av, .ro 1 (ints p) [] false] (ownS (locE k p)) := by
  obtain ⟨kd, nm, t, ks⟩ := k
  refine AH.intro Try.func32 nm32 rfl rfl rfl fun w0 ok0 own0 => ?_
  refine AWP.seq ?_
  refine AWP.region ?_
  refine AOps.box rfl rfl rfl rfl fun b1 => ?_
  refine Y (ass rfl) rfl ?_
  refine AOps.nil ?_
  refine AWP.seq ?_
  refine AWP.seq ?_
  refine AWP.region ?_
  refine Y (Yields.load_ptr_agg (j := 0) kd30 rfl rfl rfl rfl) rfl ?_
  refine AOps.callro (sExprOk_AF (.mk kd nm t ks) hk hz) rfl rfl rfl ?_
  refine Y (Yields.not rfl) rfl ?_
  refine AOps.nil ?_
  refine AWP.condT rfl (fun h => ?_) (fun h => ?_)
  ·
   skip
   refine AWP.seq ?_
   refine AWP.region ?_
   have h : atB (.mk kd nm t ks) p = false := by rw [atB]; simp at h; rw [h]; rfl
   refine Y (ass rfl) rfl ?_
   refine AOps.nil ?_
   refine AWP.leads (Leads.own0 4 1 rfl) ?_
   refine AWP.ret ⟨.inl rfl, ?_⟩
   exact RetH.of (rs := [.tmp 4]) (vs := [_]) rfl ⟨rfl, trivial⟩ (KeepR.cons 0 rfl KeepR.nil) (⟨none, by rw [locE_no h]; rfl, by rw [locE_no h]; rfl⟩)
  ·
   skip
   have h : okE (.mk kd nm t ks) = true := by simpa using h
   have hat := spart_AF (.mk kd nm t ks) hk p hp
   obtain ⟨y, hy⟩ : ∃ y, atV (.mk kd nm t ks) p = y := ⟨_, rfl⟩
   obtain ⟨yd, yn, yt, yks⟩ := y
   rw [hy] at hat
   refine AWP.skip ?_
   refine AWP.seq ?_
   refine AWP.seq ?_
   refine AWP.region ?_
   refine Y (Yields.load_ptr_agg (j := 0) kd30 rfl rfl rfl rfl) rfl ?_
   refine Y (mv rfl) rfl ?_
   refine AOps.callro (hat) rfl rfl rfl ?_
   refine Y (mv rfl) rfl ?_
   refine Y (Yields.extract rfl rfl) rfl ?_
   refine Y (Yields.extract rfl rfl) rfl ?_
   refine AOps.alloc rfl z30 rfl rfl fun b2 => ?_
   refine AOps.store (j := 0) kd30 rfl rfl rfl rfl rfl rfl ?_
   refine Y (ass rfl) rfl ?_
   refine AOps.nil ?_
   refine AWP.seq ?_
   refine AWP.region ?_
   refine Y (mv rfl) rfl ?_
   refine Y (Yields.not rfl) rfl ?_
   refine AOps.nil ?_
   refine AWP.condT rfl (fun h2 => ?_) (fun h2 => ?_)
   ·
    skip
    refine AWP.seq ?_
    refine AWP.region ?_
    have h2 : atB (.mk kd nm t ks) p = false := by rw [atB, h]; simp at h2; simp [h2]
    refine Y (ass rfl) rfl ?_
    refine AOps.nil ?_
    refine AWP.leads (Leads.own0 4 1 rfl) ?_
    refine AWP.ret ⟨.inl rfl, ?_⟩
    exact RetH.of (rs := [.tmp 4]) (vs := [_]) rfl ⟨rfl, trivial⟩ (KeepR.cons 0 rfl KeepR.nil) (⟨none, by rw [locE_no h2]; rfl, by rw [locE_no h2]; rfl⟩)
   ·
    skip
    have h2 : (atT (.mk kd nm t ks) p).isSome = true := by simpa using h2
    have h3 : atB (.mk kd nm t ks) p = true := by rw [atB, h, h2]; rfl
    refine AWP.skip ?_
    refine AWP.seq ?_
    refine AWP.region ?_
    refine Y (Yields.load_ptr_agg (j := 1) kd30 rfl rfl rfl rfl) rfl ?_
    refine Y (mv rfl) rfl ?_
    refine AOps.callH (.inl trivial) (saround_AH (.mk kd nm t ks) hk p hp h2) rfl rfl rfl (WkL.refl _) ?_
    rintro _ _ ⟨Bc, rfl, rfl⟩
    refine Y (ass rfl) rfl ?_
    refine AOps.nil ?_
    refine AWP.ret ⟨.inl rfl, ?_⟩
    exact RetH.of (rs := [.tmp 4]) (vs := [_]) rfl ⟨rfl, trivial⟩ (KeepR.cons 0 rfl KeepR.nil) (⟨Bc, by rw [locE, if_pos h3]; rfl, by rw [locE, if_pos h3]⟩)
theorem sLocalsAt_AF (k : Tr) (hk : k.bnd 1000000) (hz : sizeT k ≤ 2000000) (p : List Int) (hp : p.length ≤ 1000000) : Fn 32 [k.av, .ro 1 (ints p) [] false] (.ro 1 (strs (locE k p)) [] false) :=
  AH.toF (by simp [plainL, plainV, Tr.plain_av]) (sLocalsAt_AH k hk hz p hp) (fun r hp' h => ownS.fz h)
theorem iLocalsAt_AF (k : Tr) (hk : k.bnd 1000000) (hz : sizeT k ≤ 2000000) (p : List Int) (hp : p.length ≤ 1000000) : Fn 33 [k.av, .ro 1 (ints p) [] false] (.ro 1 (strs (locE k p)) [] false) :=
  AH.toF (by simp [plainL, plainV, Tr.plain_av]) (iLocalsAt_AH k hk hz p hp) (fun r hp' h => ownS.fz h)
end Go.Proofs.Ytccdgppplkfjfaa
