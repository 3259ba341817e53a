/- What is at a path; copies; another expression put at a path. -/
import Derived.Test.YtccdgppplkfjfaaInts
import Derived.Test.YtccdgppplkfjfaaLike
namespace Go.Proofs.Ytccdgppplkfjfaa
open Go Go.Ax Go.Proofs
set_option linter.unusedVariables false
set_option linter.unusedSimpArgs false
set_option maxRecDepth 20000
def nilTr : Tr := .mk 0 0 ⟨#[]⟩ []
def atT : Tr → List Int → Option Tr
  | k, [] => some k
  | .mk _ _ _ ks, i :: p => if 0 ≤ i ∧ i < ks.length then (match ks[i.toNat]? with | some x => atT x p | none => none) else none
theorem atT_bad {k n : Int} {t : ByteArray} {ks : List Tr} {i : Int} {p : List Int} (h : ¬ (0 ≤ i ∧ i < ks.length)) : atT (.mk k n t ks) (i :: p) = none := by rw [atT, if_neg h]
theorem atT_step {k n : Int} {t : ByteArray} {ks : List Tr} {i : Int} {p : List Int} {x : Tr} (h : 0 ≤ i ∧ i < ks.length) (hx : ks[i.toNat]? = some x) : atT (.mk k n t ks) (i :: p) = atT x p := by rw [atT, if_pos h, hx]
def atV (k : Tr) (p : List Int) : Tr := (atT k p).getD nilTr
theorem atV_bnd {N : Nat} : ∀ (p : List Int) (k : Tr), k.bnd N → ∀ x, atT k p = some x → x.bnd N
  | [], k, h, x, hx => by rw [atT] at hx; cases hx; exact h
  | i :: p, .mk a b c ks, h, x, hx => by
    rw [atT] at hx
    split at hx
    · split at hx
      · rename_i y hy; exact atV_bnd p y (Tr.bnds_get h.2.2 hy) x hx
      · cases hx
    · cases hx
def roTB (k : Tr) (b : Bool) : AV → Hp → Prop := fun r hp' => r = .tup [k.av, bool b] ∧ hp' = []
theorem iat_AH (k : Tr) (hk : k.bnd 1000000) (p : List Int) (hp : p.length ≤ 1000000) : FnH 58 [] [k.av, .ro 1 (ints p) [] false] (roTB (atV k p) (atT k p).isSome) := by
  obtain ⟨kd, nm, t, ks⟩ := k
  have hlp := ints_length p
  refine AH.intro Try.func58 nm58 rfl rfl rfl fun w0 ok0 own0 => ?_
  refine AWP.seq ?_
  refine AWP.region ?_
  refine AOps.box rfl rfl rfl rfl fun b1 => ?_
  refine AOps.alloc rfl z30 rfl rfl fun b2 => ?_
  refine Y (ass rfl) rfl ?_
  refine AOps.nil ?_
  refine AWP.seq ?_
  refine AWP.seq ?_
  refine AWP.region ?_
  refine Y (mv rfl) rfl ?_
  refine Y (Yields.len_ro sl41 rfl) rfl ?_
  refine Y (mv rfl) rfl ?_
  refine AOps.nil ?_
  refine AWP.block ?_
  refine AWP.loopV (α := Tr × Nat) (fun pp : Tr × Nat => match pp with | (x, i) => ⟨[(2, .ptr (some b1) 0 0 4), (4, .ptr (some b2) 0 0 4), (8, .ro 1 (ints p) [] false), (9, int (ints p).length), (10, int i)], [(some b1, ⟨4, [x.av]⟩), (some b2, ⟨4, [zero4]⟩)]⟩) (fun pp : Tr × Nat => match pp with | (x, i) => x.bnd 1000000 ∧ i ≤ p.length ∧ atT x (p.drop i) = atT (.mk kd nm t ks) p) (fun pp : Tr × Nat => match pp with | (x, i) => p.length - i) ((Tr.mk kd nm t ks, 0)) ?_ ?_ ?_
  · exact Leads.keepR (KeepR.cons 1 rfl (KeepR.cons 0 rfl KeepR.nil)) ⟨rfl, rfl, rfl, rfl, rfl, trivial⟩
  ·
   show (Tr.mk kd nm t ks).bnd 1000000 ∧ 0 ≤ p.length ∧ atT (Tr.mk kd nm t ks) (p.drop 0) = atT (.mk kd nm t ks) p
   exact ⟨hk, Nat.zero_le _, rfl⟩
  ·
   rintro ⟨x, i⟩ hinv
   replace hinv : x.bnd 1000000 ∧ i ≤ p.length ∧ atT x (p.drop i) = atT (.mk kd nm t ks) p := hinv
   show AWP _ _ _ _ ⟨[(2, .ptr (some b1) 0 0 4), (4, .ptr (some b2) 0 0 4), (8, .ro 1 (ints p) [] false), (9, int (ints p).length), (10, int i)], [(some b1, ⟨4, [x.av]⟩), (some b2, ⟨4, [zero4]⟩)]⟩
   refine AWP.seq ?_
   refine AWP.region ?_
   obtain ⟨xd, xn, xt, xks⟩ := x
   obtain ⟨hb, hi, hp1⟩ := hinv
   simp only [Tr.bnd] at hb
   have hlx := Tr.avs_length xks
   refine Y (bn rfl rfl BinR.lss rfl) rfl ?_
   refine AOps.nil ?_
   refine AWP.seq ?_
   refine AWP.condT rfl (fun g => ?_) (fun g => ?_)
   ·
    replace g := of_decide_eq_true g
    obtain ⟨n, hn, hd⟩ := drop_at (l := p) (i := i) (by omega)
    rw [hd] at hp1
    refine AWP.skip ?_
    refine AWP.seq ?_
    refine AWP.block ?_
    refine AWP.seq ?_
    refine AWP.region ?_
    refine Y (Yields.idx_roN sl41 rfl rfl rfl rfl (by omega)) rfl ?_
    refine Y (Yields.load_rop_one kd3 rfl (ints_at hn) rfl) rfl ?_
    refine Y (ass rfl) rfl ?_
    refine AOps.nil ?_
    refine AWP.seq ?_
    refine AWP.seq ?_
    refine AWP.region ?_
    refine Y (mv rfl) rfl ?_
    refine Y (bn rfl rfl BinR.lss rfl) rfl ?_
    refine Y (mv rfl) rfl ?_
    refine AOps.split 16 rfl (fun g1 => ?_) (fun g1 => ?_)
    ·
     replace g1 := of_decide_eq_true g1
     rw [atT_bad (by omega)] at hp1
     refine AOps.off' rfl rfl rfl rfl ?_
     refine AOps.off' rfl rfl rfl rfl ?_
     refine AOps.off' rfl rfl rfl rfl ?_
     refine AOps.off' rfl rfl rfl rfl ?_
     refine AOps.off' rfl rfl rfl rfl ?_
     refine Y (Yields.pick_true rfl rfl) rfl ?_
     refine AOps.nil ?_
     refine AWP.cond rfl (fun _ => ?_) (fun h => absurd h (by decide))
     refine AWP.seq ?_
     refine AWP.region ?_
     refine Y (Yields.build pl30 z30 rfl rfl) rfl ?_
     refine AOps.store (j := 1) kd30 rfl rfl rfl rfl rfl rfl ?_
     refine Y (ass rfl) rfl ?_
     refine AOps.nil ?_
     refine AWP.leads (Leads.rowWk 1 0 rfl rfl (Wk.agg (ps := [_, _, _, .ro 4 [] [] false]) ⟨Wk.refl _, Wk.refl _, Wk.refl _, Wk.nil, trivial⟩)) ?_
     refine AWP.ret ⟨.inl rfl, ?_⟩
     exact RetH.of (rs := [.cell 4 30, .tmp 5]) (vs := [_, _]) rfl ⟨resOne.cell (j := 1) rfl rfl kd30 rfl rfl rfl, rfl, trivial⟩ KeepR.nil (⟨by rw [atV, ← hp1]; rfl, rfl⟩)
    ·
     replace g1 := of_decide_eq_false g1
     refine AOps.on rfl rfl ?_
     refine Y (mv rfl) rfl ?_
     refine AOps.on rfl rfl ?_
     refine Y (Yields.fieldAddr_ptr fo30_3 rfl) rfl ?_
     refine AOps.on rfl rfl ?_
     refine Y (Yields.load_ptr_field (j := 0) kd28 rfl rfl rfl rfl rfl rfl rfl) rfl ?_
     refine AOps.on rfl rfl ?_
     refine Y (Yields.len_ro sl28 rfl) rfl ?_
     refine AOps.on rfl rfl ?_
     refine Y (bn rfl rfl BinR.geq rfl) rfl ?_
     refine Y (Yields.pick_false rfl rfl) rfl ?_
     refine AOps.nil ?_
     refine AWP.condT rfl (fun g2 => ?_) (fun g2 => ?_)
     ·
      replace g2 := of_decide_eq_true g2
      refine AWP.seq ?_
      refine AWP.region ?_
      rw [atT_bad (by omega)] at hp1
      refine Y (Yields.build pl30 z30 rfl rfl) rfl ?_
      refine AOps.store (j := 1) kd30 rfl rfl rfl rfl rfl rfl ?_
      refine Y (ass rfl) rfl ?_
      refine AOps.nil ?_
      refine AWP.leads (Leads.rowWk 1 0 rfl rfl (Wk.agg (ps := [_, _, _, .ro 4 [] [] false]) ⟨Wk.refl _, Wk.refl _, Wk.refl _, Wk.nil, trivial⟩)) ?_
      refine AWP.ret ⟨.inl rfl, ?_⟩
      exact RetH.of (rs := [.cell 4 30, .tmp 5]) (vs := [_, _]) rfl ⟨resOne.cell (j := 1) rfl rfl kd30 rfl rfl rfl, rfl, trivial⟩ KeepR.nil (⟨by rw [atV, ← hp1]; rfl, rfl⟩)
     ·
      replace g2 := of_decide_eq_false g2
      obtain ⟨y, hy, _⟩ := drop_at (l := xks) (i := n.toNat) (by omega)
      rw [atT_step (by omega) hy] at hp1
      refine AWP.skip ?_
      refine AWP.region ?_
      refine Y (Yields.fieldAddr_ptr fo30_3 rfl) rfl ?_
      refine Y (Yields.load_ptr_field (j := 0) kd28 rfl rfl rfl rfl rfl rfl rfl) rfl ?_
      refine Y (mv rfl) rfl ?_
      refine Y (Yields.idx_roN sl28 rfl rfl rfl (j := n.toNat) (by omega) (by omega)) rfl ?_
      refine Y (Yields.load_rop_aggV kd30 rfl (Tr.avs_at hy) (Tr.av_agg y)) rfl ?_
      refine AOps.store (j := 0) kd30 rfl rfl rfl rfl (Tr.av_cell y) (Tr.av_width y) ?_
      refine AOps.nil ?_
      refine AWP.region ?_
      refine Y (bn rfl rfl (BinR.addI (by omega) (by omega)) rfl) rfl ?_
      refine Y (mv rfl) rfl ?_
      refine AOps.nil ?_
      refine ⟨(y, i + 1), ?_, ?_, ?_⟩
      ·
       show p.length - (i + 1) < p.length - i
       omega
      ·
       show y.bnd 1000000 ∧ (i + 1) ≤ p.length ∧ atT y (p.drop (i + 1)) = atT (.mk kd nm t ks) p
       exact ⟨Tr.bnds_get hb.2.2 hy, by omega, hp1⟩
      · exact Leads.keepR (KeepR.cons 0 rfl (KeepR.cons 0 rfl KeepR.nil)) ⟨rfl, rfl, rfl, rfl, rfl, trivial⟩
   ·
    replace g := of_decide_eq_false g
    rw [List.drop_eq_nil_of_le (by omega), atT] at hp1
    refine AWP.exit ?_
    refine AWP.seq ?_
    refine AWP.region ?_
    refine Y (Yields.load_ptr_agg (j := 0) kd30 rfl rfl rfl rfl) rfl ?_
    refine AOps.store (j := 1) kd30 rfl rfl rfl rfl rfl rfl ?_
    refine Y (ass rfl) rfl ?_
    refine AOps.nil ?_
    refine AWP.ret ⟨.inl rfl, ?_⟩
    exact RetH.of (rs := [.cell 4 30, .tmp 5]) (vs := [_, _]) rfl ⟨resOne.cell (j := 1) rfl rfl kd30 rfl rfl rfl, rfl, trivial⟩ KeepR.nil (⟨by rw [atV, ← hp1]; rfl, rfl⟩)
theorem spart_AH (k : Tr) (hk : k.bnd 1000000) (p : List Int) (hp : p.length ≤ 1000000) : FnH 55 [] [k.av, .ro 1 (ints p) [] false] (roTB (atV k p) (atT k p).isSome) := by
  obtain ⟨kd, nm, t, ks⟩ := k
  have hlp := ints_length p
  refine AH.intro Try.func55 nm55 rfl rfl rfl fun w0 ok0 own0 => ?_
  refine AWP.seq ?_
  refine AWP.region ?_
  refine AOps.box rfl rfl rfl rfl fun b1 => ?_
  refine AOps.alloc rfl z30 rfl rfl fun b2 => ?_
  refine Y (ass rfl) rfl ?_
  refine AOps.nil ?_
  refine AWP.seq ?_
  refine AWP.seq ?_
  refine AWP.region ?_
  refine Y (ass rfl) rfl ?_
  refine AOps.nil ?_
  refine AWP.block ?_
  refine AWP.loopV (α := Tr × Nat) (fun pp : Tr × Nat => match pp with | (x, i) => ⟨[(1, .ro 1 (ints p) [] false), (2, .ptr (some b1) 0 0 4), (4, .ptr (some b2) 0 0 4), (6, int i)], [(some b1, ⟨4, [x.av]⟩), (some b2, ⟨4, [zero4]⟩)]⟩) (fun pp : Tr × Nat => match pp with | (x, i) => x.bnd 1000000 ∧ i ≤ p.length ∧ atT x (p.drop i) = atT (.mk kd nm t ks) p) (fun pp : Tr × Nat => match pp with | (x, i) => p.length - i) ((Tr.mk kd nm t ks, 0)) ?_ ?_ ?_
  · exact Leads.keepR (KeepR.cons 1 rfl (KeepR.cons 0 rfl KeepR.nil)) ⟨rfl, rfl, rfl, rfl, trivial⟩
  ·
   show (Tr.mk kd nm t ks).bnd 1000000 ∧ 0 ≤ p.length ∧ atT (Tr.mk kd nm t ks) (p.drop 0) = atT (.mk kd nm t ks) p
   exact ⟨hk, Nat.zero_le _, rfl⟩
  ·
   rintro ⟨x, i⟩ hinv
   replace hinv : x.bnd 1000000 ∧ i ≤ p.length ∧ atT x (p.drop i) = atT (.mk kd nm t ks) p := hinv
   show AWP _ _ _ _ ⟨[(1, .ro 1 (ints p) [] false), (2, .ptr (some b1) 0 0 4), (4, .ptr (some b2) 0 0 4), (6, int i)], [(some b1, ⟨4, [x.av]⟩), (some b2, ⟨4, [zero4]⟩)]⟩
   refine AWP.seq ?_
   refine AWP.seq ?_
   refine AWP.region ?_
   obtain ⟨xd, xn, xt, xks⟩ := x
   obtain ⟨hb, hi, hp1⟩ := hinv
   simp only [Tr.bnd] at hb
   have hlx := Tr.avs_length xks
   refine Y (mv rfl) rfl ?_
   refine Y (mv rfl) rfl ?_
   refine Y (Yields.len_ro sl41 rfl) rfl ?_
   refine Y (bn rfl rfl BinR.lss rfl) rfl ?_
   refine AOps.nil ?_
   refine AWP.condT rfl (fun g => ?_) (fun g => ?_)
   ·
    replace g := of_decide_eq_true g
    obtain ⟨n, hn, hd⟩ := drop_at (l := p) (i := i) (by omega)
    rw [hd] at hp1
    refine AWP.skip ?_
    refine AWP.seq ?_
    refine AWP.block ?_
    refine AWP.seq ?_
    refine AWP.seq ?_
    refine AWP.prune (tm' := [(1, _), (2, _), (4, _), (6, _), (10, _)]) ⟨rfl, rfl, rfl, rfl, rfl, trivial⟩ ?_
    refine AWP.drawn mixed rfl rfl ?_
    refine D (tm' := [(1, _)]) ⟨rfl, trivial⟩ (DStep.yields (mv rfl)) rfl ?_
    refine D (tm' := [(6, _)]) ⟨rfl, trivial⟩ (DStep.yields (mv rfl)) rfl ?_
    refine D (tm' := [(13, _), (14, _)]) ⟨rfl, rfl, trivial⟩ (DStep.yields (Yields.idx_roN sl41 rfl rfl rfl rfl (by omega))) rfl ?_
    refine D (tm' := [(15, _)]) ⟨rfl, trivial⟩ (DStep.yields (Yields.load_rop_one kd3 rfl (ints_at hn) rfl)) rfl ?_
    refine D (tm' := [(2, _)]) ⟨rfl, trivial⟩ (DStep.yields (Yields.fieldAddr_ptr fo30_3 rfl)) rfl ?_
    refine D (tm' := [(17, _)]) ⟨rfl, trivial⟩ (DStep.yields (Yields.load_ptr_field (j := 0) kd28 rfl rfl rfl rfl rfl rfl rfl)) rfl ?_
    refine D (tm' := [(18, _)]) ⟨rfl, trivial⟩ (DStep.yields (Yields.len_ro sl28 rfl)) rfl ?_
    refine D (tm' := [(19, _)]) ⟨rfl, trivial⟩ (DStep.yields (bn rfl rfl (BinR.subI (by omega) (by omega)) rfl)) rfl ?_
    refine D (tm' := [(16, _), (20, _)]) ⟨rfl, rfl, trivial⟩ (DStep.callro (inRange_AF n 0 ((Tr.avs xks).length - 1)) rfl rfl) rfl ?_
    refine D (tm' := [(21, _)]) ⟨rfl, trivial⟩ (DStep.yields (Yields.not rfl)) rfl ?_
    refine DOps.nil ?_
    refine AWP.condT rfl (fun g1 => ?_) (fun g1 => ?_)
    ·
     skip
     refine AWP.seq ?_
     refine AWP.region ?_
     have g1 : ¬ (0 ≤ n ∧ n < xks.length) := by simp at g1; omega
     rw [atT_bad g1] at hp1
     refine Y (Yields.build pl30 z30 rfl rfl) rfl ?_
     refine AOps.store (j := 1) kd30 rfl rfl rfl rfl rfl rfl ?_
     refine Y (ass rfl) rfl ?_
     refine AOps.nil ?_
     refine AWP.leads (Leads.rowWk 1 0 rfl rfl (Wk.agg (ps := [_, _, _, .ro 4 [] [] false]) ⟨Wk.refl _, Wk.refl _, Wk.refl _, Wk.nil, trivial⟩)) ?_
     refine AWP.ret ⟨.inl rfl, ?_⟩
     exact RetH.of (rs := [.cell 4 30, .tmp 5]) (vs := [_, _]) rfl ⟨resOne.cell (j := 1) rfl rfl kd30 rfl rfl rfl, rfl, trivial⟩ KeepR.nil (⟨by rw [atV, ← hp1]; rfl, rfl⟩)
    ·
     skip
     have g1 : 0 ≤ n ∧ n < xks.length := by simp at g1; omega
     obtain ⟨y, hy, _⟩ := drop_at (l := xks) (i := n.toNat) (by omega)
     rw [atT_step g1 hy] at hp1
     obtain ⟨yd, yn, yt, yks⟩ := y
     refine AWP.skip ?_
     refine AWP.prune (tm' := [(1, _), (2, _), (4, _), (6, _), (10, _), (22, _)]) ⟨rfl, rfl, rfl, rfl, rfl, rfl, trivial⟩ ?_
     refine AWP.drawnS [] 8 mixed rfl rfl rfl rfl rfl ?_
     refine DU (tm' := [(2, _)]) ⟨rfl, trivial⟩ rfl (DStep.yields (Yields.fieldAddr_ptr fo30_3 rfl)) rfl ?_
     refine DU (tm' := [(24, _)]) ⟨rfl, trivial⟩ rfl (DStep.yields (Yields.load_ptr_field (j := 0) kd28 rfl rfl rfl rfl rfl rfl rfl)) rfl ?_
     refine DU (tm' := [(1, _)]) ⟨rfl, trivial⟩ rfl (DStep.yields (mv rfl)) rfl ?_
     refine DU (tm' := [(6, _)]) ⟨rfl, trivial⟩ rfl (DStep.yields (mv rfl)) rfl ?_
     refine DU (tm' := [(26, _), (27, _)]) ⟨rfl, rfl, trivial⟩ rfl (DStep.yields (Yields.idx_roN sl41 rfl rfl rfl rfl (by omega))) rfl ?_
     refine DU (tm' := [(28, _)]) ⟨rfl, trivial⟩ rfl (DStep.yields (Yields.load_rop_one kd3 rfl (ints_at hn) rfl)) rfl ?_
     refine DU (tm' := [(25, _), (29, _)]) ⟨rfl, rfl, trivial⟩ rfl (DStep.yields (Yields.idx_roN sl28 rfl rfl rfl (j := n.toNat) (by omega) (by omega))) rfl ?_
     refine DU (tm' := [(30, _)]) ⟨rfl, trivial⟩ rfl (DStep.yields (Yields.load_rop_aggV kd30 rfl (Tr.avs_at hy) rfl)) rfl ?_
     refine DOpsU.nil ?_
     refine AOps.store (j := 0) kd30 rfl rfl rfl rfl rfl rfl ?_
     refine AOps.nil ?_
     refine AWP.region ?_
     refine Y (mv rfl) rfl ?_
     refine Y (bn rfl rfl (BinR.addI (by omega) (by omega)) rfl) rfl ?_
     refine Y (ass rfl) rfl ?_
     refine AOps.nil ?_
     refine ⟨(Tr.mk yd yn yt yks, i + 1), ?_, ?_, ?_⟩
     ·
      show p.length - (i + 1) < p.length - i
      omega
     ·
      show (Tr.mk yd yn yt yks).bnd 1000000 ∧ (i + 1) ≤ p.length ∧ atT (Tr.mk yd yn yt yks) (p.drop (i + 1)) = atT (.mk kd nm t ks) p
      exact ⟨Tr.bnds_get hb.2.2 hy, by omega, hp1⟩
     · exact Leads.keepR (KeepR.cons 0 rfl (KeepR.cons 0 rfl KeepR.nil)) ⟨rfl, rfl, rfl, rfl, trivial⟩
   ·
    replace g := of_decide_eq_false g
    rw [List.drop_eq_nil_of_le (by omega), atT] at hp1
    refine AWP.exit ?_
    refine AWP.seq ?_
    refine AWP.region ?_
    refine Y (Yields.load_ptr_agg (j := 0) kd30 rfl rfl rfl rfl) rfl ?_
    refine AOps.store (j := 1) kd30 rfl rfl rfl rfl rfl rfl ?_
    refine Y (ass rfl) rfl ?_
    refine AOps.nil ?_
    refine AWP.ret ⟨.inl rfl, ?_⟩
    exact RetH.of (rs := [.cell 4 30, .tmp 5]) (vs := [_, _]) rfl ⟨resOne.cell (j := 1) rfl rfl kd30 rfl rfl rfl, rfl, trivial⟩ KeepR.nil (⟨by rw [atV, ← hp1]; rfl, rfl⟩)
theorem iat_AF (k : Tr) (hk : k.bnd 1000000) (p : List Int) (hp : p.length ≤ 1000000) : Fn 58 [k.av, .ro 1 (ints p) [] false] (.tup [(atV k p).av, bool (atT k p).isSome]) :=
  AH.toF (by simp [plainL, plainV, Tr.plain_av]) (iat_AH k hk p hp) (fun r hp' h => by obtain ⟨rfl, rfl⟩ := h; exact Fz.refl)
theorem spart_AF (k : Tr) (hk : k.bnd 1000000) (p : List Int) (hp : p.length ≤ 1000000) : Fn 55 [k.av, .ro 1 (ints p) [] false] (.tup [(atV k p).av, bool (atT k p).isSome]) :=
  AH.toF (by simp [plainL, plainV, Tr.plain_av]) (spart_AH k hk p hp) (fun r hp' h => by obtain ⟨rfl, rfl⟩ := h; exact Fz.refl)
theorem avXs_take (l : List Tr) {i : Nat} {k : Tr} (h : l[i]? = some k) : Tr.avXs Tr.nosp (l.take i) ++ [k.avX Tr.nosp] = Tr.avXs Tr.nosp (l.take (i + 1)) := by
  rw [List.take_add_one, h, Tr.avXs_append]; rfl
theorem icopied_AH (k : Tr) : k.bnd 1000000 → FnH 59 [] [k.av] (ownT k) := by
  induction k using Tr.ind
  rename_i kd nm t ks ih
  intro hk
  simp only [Tr.bnd] at hk
  obtain ⟨hk1, hk2, hk3⟩ := hk
  have hlen := Tr.avs_length ks
  refine AH.intro Try.func59 nm59 rfl rfl rfl fun w0 ok0 own0 => ?_
  refine AWP.seq ?_
  refine AWP.region ?_
  refine AOps.box rfl rfl rfl rfl fun b1 => ?_
  refine AOps.alloc rfl z30 rfl rfl fun b2 => ?_
  refine AOps.nil ?_
  refine AWP.seq ?_
  refine AWP.region ?_
  refine Y (Yields.load_ptr_agg (j := 1) kd30 rfl rfl rfl rfl) rfl ?_
  refine AOps.alloc rfl z30 rfl rfl fun b3 => ?_
  refine AOps.store (j := 0) kd30 rfl rfl rfl rfl rfl rfl ?_
  refine AOps.nil ?_
  refine AWP.seq ?_
  refine AWP.region ?_
  refine Y (Yields.fieldAddr_ptr fo30_3 rfl) rfl ?_
  refine AOps.storeField (j := 0) kd28 rfl rfl rfl rfl rfl rfl rfl ?_
  refine AOps.nil ?_
  refine AWP.leads (Leads.rowWk 0 0 rfl rfl (Wk.agg (ps := [_, _, _, .loc none 0 0 0 4]) ⟨Wk.refl _, Wk.refl _, Wk.refl _, Wk.nilLoc (n := 4), trivial⟩)) ?_
  refine AWP.leads (Leads.row0 4) ?_
  refine AWP.seq ?_
  refine AWP.seq ?_
  refine AWP.region ?_
  refine Y (Yields.fieldAddr_ptr fo30_3 rfl) rfl ?_
  refine Y (Yields.load_ptr_field (j := 3) kd28 rfl rfl rfl rfl rfl rfl rfl) rfl ?_
  refine Y (Yields.len_ro sl28 rfl) rfl ?_
  refine Y (mv rfl) rfl ?_
  refine AOps.nil ?_
  refine AWP.block ?_
  refine AWP.loopV (α := Option Nat × Nat) (fun pp : Option Nat × Nat => match pp with | (B, i) => ⟨[(2, .ptr (some b2) 0 0 4), (3, .ptr (some b3) 0 0 4), (9, .ro 4 (Tr.avs ks) [] false), (10, int (Tr.avs ks).length), (11, int i)], [(some b3, ⟨4, [.agg [int kd, int nm, str t, .loc B 0 i i 4]]⟩), (B, ⟨4, Tr.avXs Tr.nosp (ks.take i)⟩), (some b2, ⟨4, [zero4]⟩)]⟩) (fun pp : Option Nat × Nat => match pp with | (B, i) => i ≤ ks.length) (fun pp : Option Nat × Nat => match pp with | (B, i) => ks.length - i) ((none, 0)) ?_ ?_ ?_
  · exact Leads.keepR (KeepR.cons 1 rfl (KeepR.cons 0 rfl (KeepR.cons 0 rfl KeepR.nil))) ⟨rfl, rfl, rfl, rfl, rfl, trivial⟩
  ·
   show 0 ≤ ks.length
   exact Nat.zero_le _
  ·
   rintro ⟨B, i⟩ hinv
   replace hinv : i ≤ ks.length := hinv
   show AWP _ _ _ _ ⟨[(2, .ptr (some b2) 0 0 4), (3, .ptr (some b3) 0 0 4), (9, .ro 4 (Tr.avs ks) [] false), (10, int (Tr.avs ks).length), (11, int i)], [(some b3, ⟨4, [.agg [int kd, int nm, str t, .loc B 0 i i 4]]⟩), (B, ⟨4, Tr.avXs Tr.nosp (ks.take i)⟩), (some b2, ⟨4, [zero4]⟩)]⟩
   refine AWP.seq ?_
   refine AWP.region ?_
   refine Y (bn rfl rfl BinR.lss rfl) rfl ?_
   refine AOps.nil ?_
   refine AWP.seq ?_
   refine AWP.condT rfl (fun g => ?_) (fun g => ?_)
   ·
    replace g := of_decide_eq_true g
    obtain ⟨k, hk, hd⟩ := drop_at (l := ks) (i := i) (by omega)
    have hA : (Tr.avXs Tr.nosp (ks.take i)).length = i := by rw [Tr.avXs_length, List.length_take]; omega
    obtain ⟨ckd, cnm, ct, cks⟩ := k
    refine AWP.skip ?_
    refine AWP.seq ?_
    refine AWP.block ?_
    refine AWP.seq ?_
    refine AWP.region ?_
    refine Y (Yields.idx_roN sl28 rfl rfl rfl rfl (by omega)) rfl ?_
    refine Y (Yields.load_rop_aggV kd30 rfl (Tr.avs_at hk) rfl) rfl ?_
    refine AOps.alloc rfl z30 rfl rfl fun b1 => ?_
    refine AOps.store (j := 0) kd30 rfl rfl rfl rfl rfl rfl ?_
    refine AOps.nil ?_
    refine AWP.prune (tm' := [(2, _), (3, _), (9, _), (10, _), (11, _), (12, _), (5, _)]) ⟨rfl, rfl, rfl, rfl, rfl, rfl, rfl, trivial⟩ ?_
    refine AWP.drawnS [(3, 4)] 5 mixed rfl rfl rfl rfl rfl ?_
    refine DU (tm' := [(3, _)]) ⟨rfl, trivial⟩ rfl (DStep.yields (Yields.fieldAddr_ptr fo30_3 rfl)) rfl ?_
    refine DU (tm' := [(15, _)]) ⟨rfl, trivial⟩ rfl (DStep.yields (Yields.load_ptr_field (j := 1) kd28 rfl rfl rfl rfl rfl rfl rfl)) rfl ?_
    refine DU (tm' := [(5, _)]) ⟨rfl, trivial⟩ rfl (DStep.yields (Yields.load_ptr_agg (j := 0) kd30 rfl rfl rfl rfl)) rfl ?_
    refine DUs (tm' := [(17, _)]) ⟨rfl, trivial⟩ rfl rfl (DStepU.callF (AH.toOwn (by simp [plainL, plainV, Tr.plain_av]) (ih _ (List.mem_of_getElem? hk) (Tr.bnds_get hk3 hk)) (fun r hp' h => ownT.close h)) rfl (WkL.refl _)) rfl ?_
    refine DUs (tm' := []) trivial rfl rfl (DStepU.buildOne sl28 z30 (Tr.avX_cell _ _) (Tr.avX_width _ _) rfl) rfl ?_
    refine DOpsU.nil ?_
    intro Bs
    refine AOps.unseal 0 0 rfl rfl (openT_to _ _ _ _) fun Bk => ?_
    refine AOps.appendE (j := 4) sl28 z30 rfl rfl rfl rfl rfl hA rfl (src_row (j2 := 1) rfl rfl rfl) (show i + 1 = i + 1 from rfl) rfl (by omega) (by omega) fun Bn => ?_
    refine AOps.leads (Leads.seal 3 i rfl (get_one hA) (sealT _ _ _ _ _)) ?_
    refine AOps.leads (Leads.rowEq 3 rfl (show (Tr.avXs Tr.nosp (ks.take i) ++ [openT Bk (.mk ckd cnm ct cks)]).set i (Tr.avX Tr.nosp (.mk ckd cnm ct cks)) = Tr.avXs Tr.nosp (ks.take (i + 1)) by rw [app_one hA, avXs_take ks hk])) ?_
    refine Y (Yields.fieldAddr_ptr fo30_3 rfl) rfl ?_
    refine AOps.storeField (j := 2) kd28 rfl rfl rfl rfl rfl rfl rfl ?_
    refine AOps.nil ?_
    refine AWP.region ?_
    refine Y (bn rfl rfl (BinR.addI (by omega) (by omega)) rfl) rfl ?_
    refine Y (mv rfl) rfl ?_
    refine AOps.nil ?_
    refine ⟨(Bn, i + 1), ?_, ?_, ?_⟩
    ·
     show ks.length - (i + 1) < ks.length - i
     omega
    ·
     show (i + 1) ≤ ks.length
     omega
    · exact Leads.keepR (KeepR.cons 2 rfl (KeepR.cons 2 rfl (KeepR.cons 2 rfl KeepR.nil))) ⟨rfl, rfl, rfl, rfl, rfl, trivial⟩
   ·
    replace g := of_decide_eq_false g
    have hi' : i = ks.length := by omega
    subst hi'
    refine AWP.exit ?_
    refine AWP.seq ?_
    refine AWP.region ?_
    refine Y (Yields.load_ptr_agg (j := 0) kd30 rfl rfl rfl rfl) rfl ?_
    refine AOps.store (j := 2) kd30 rfl rfl rfl rfl rfl rfl ?_
    refine AOps.nil ?_
    refine AWP.ret ⟨.inl rfl, ?_⟩
    exact RetH.of (rs := [.cell 2 30]) (vs := [_]) rfl ⟨resOne.cell (j := 2) rfl rfl kd30 rfl rfl rfl, trivial⟩ (KeepR.cons 1 rfl KeepR.nil) (⟨B, rfl, by rw [Tr.kids, List.take_length]⟩)
theorem scopied_AH (k : Tr) : k.bnd 1000000 → FnH 56 [] [k.av] (ownT k) := by
  induction k using Tr.ind
  rename_i kd nm t ks ih
  intro hk
  simp only [Tr.bnd] at hk
  obtain ⟨hk1, hk2, hk3⟩ := hk
  have hlen := Tr.avs_length ks
  refine AH.intro Try.func56 nm56 rfl rfl rfl fun w0 ok0 own0 => ?_
  refine AWP.seq ?_
  refine AWP.region ?_
  refine AOps.box rfl rfl rfl rfl fun b1 => ?_
  refine AOps.alloc rfl z30 rfl rfl fun b2 => ?_
  refine AOps.nil ?_
  refine AWP.seq ?_
  refine AWP.region ?_
  refine Y (Yields.load_ptr_agg (j := 1) kd30 rfl rfl rfl rfl) rfl ?_
  refine AOps.alloc rfl z30 rfl rfl fun b3 => ?_
  refine AOps.store (j := 0) kd30 rfl rfl rfl rfl rfl rfl ?_
  refine AOps.nil ?_
  refine AWP.seq ?_
  refine AWP.region ?_
  refine Y (Yields.fieldAddr_ptr fo30_3 rfl) rfl ?_
  refine AOps.storeField (j := 0) kd28 rfl rfl rfl rfl rfl rfl rfl ?_
  refine AOps.nil ?_
  refine AWP.leads (Leads.rowWk 0 0 rfl rfl (Wk.agg (ps := [_, _, _, .loc none 0 0 0 4]) ⟨Wk.refl _, Wk.refl _, Wk.refl _, Wk.nilLoc (n := 4), trivial⟩)) ?_
  refine AWP.leads (Leads.row0 4) ?_
  refine AWP.seq ?_
  refine AWP.seq ?_
  refine AWP.region ?_
  refine Y (ass rfl) rfl ?_
  refine AOps.nil ?_
  refine AWP.block ?_
  refine AWP.loopV (α := Option Nat × Nat) (fun pp : Option Nat × Nat => match pp with | (B, i) => ⟨[(1, .ptr (some b1) 0 0 4), (2, .ptr (some b2) 0 0 4), (3, .ptr (some b3) 0 0 4), (4, int i)], [(some b3, ⟨4, [.agg [int kd, int nm, str t, .loc B 0 i i 4]]⟩), (B, ⟨4, Tr.avXs Tr.nosp (ks.take i)⟩), (some b2, ⟨4, [zero4]⟩), (some b1, ⟨4, [Tr.av (.mk kd nm t ks)]⟩)]⟩) (fun pp : Option Nat × Nat => match pp with | (B, i) => i ≤ ks.length) (fun pp : Option Nat × Nat => match pp with | (B, i) => ks.length - i) ((none, 0)) ?_ ?_ ?_
  · exact Leads.keepR (KeepR.cons 1 rfl (KeepR.cons 0 rfl (KeepR.cons 0 rfl (KeepR.cons 0 rfl KeepR.nil)))) ⟨rfl, rfl, rfl, rfl, trivial⟩
  ·
   show 0 ≤ ks.length
   exact Nat.zero_le _
  ·
   rintro ⟨B, i⟩ hinv
   replace hinv : i ≤ ks.length := hinv
   show AWP _ _ _ _ ⟨[(1, .ptr (some b1) 0 0 4), (2, .ptr (some b2) 0 0 4), (3, .ptr (some b3) 0 0 4), (4, int i)], [(some b3, ⟨4, [.agg [int kd, int nm, str t, .loc B 0 i i 4]]⟩), (B, ⟨4, Tr.avXs Tr.nosp (ks.take i)⟩), (some b2, ⟨4, [zero4]⟩), (some b1, ⟨4, [Tr.av (.mk kd nm t ks)]⟩)]⟩
   refine AWP.seq ?_
   refine AWP.seq ?_
   refine AWP.region ?_
   refine Y (mv rfl) rfl ?_
   refine Y (Yields.fieldAddr_ptr fo30_3 rfl) rfl ?_
   refine Y (Yields.load_ptr_field (j := 3) kd28 rfl rfl rfl rfl rfl rfl rfl) rfl ?_
   refine Y (Yields.len_ro sl28 rfl) rfl ?_
   refine Y (bn rfl rfl BinR.lss rfl) rfl ?_
   refine AOps.nil ?_
   refine AWP.condT rfl (fun g => ?_) (fun g => ?_)
   ·
    replace g := of_decide_eq_true g
    obtain ⟨k, hk, hd⟩ := drop_at (l := ks) (i := i) (by omega)
    have hA : (Tr.avXs Tr.nosp (ks.take i)).length = i := by rw [Tr.avXs_length, List.length_take]; omega
    obtain ⟨ckd, cnm, ct, cks⟩ := k
    refine AWP.skip ?_
    refine AWP.seq ?_
    refine AWP.block ?_
    refine AWP.prune (tm' := [(1, _), (2, _), (3, _), (4, _), (11, _)]) ⟨rfl, rfl, rfl, rfl, rfl, trivial⟩ ?_
    refine AWP.drawnS [(7, 8)] 9 mixed rfl rfl rfl rfl rfl ?_
    refine DU (tm' := [(3, _)]) ⟨rfl, trivial⟩ rfl (DStep.yields (Yields.fieldAddr_ptr fo30_3 rfl)) rfl ?_
    refine DU (tm' := [(14, _)]) ⟨rfl, trivial⟩ rfl (DStep.yields (Yields.load_ptr_field (j := 0) kd28 rfl rfl rfl rfl rfl rfl rfl)) rfl ?_
    refine DU (tm' := [(1, _)]) ⟨rfl, trivial⟩ rfl (DStep.yields (Yields.fieldAddr_ptr fo30_3 rfl)) rfl ?_
    refine DU (tm' := [(16, _)]) ⟨rfl, trivial⟩ rfl (DStep.yields (Yields.load_ptr_field (j := 3) kd28 rfl rfl rfl rfl rfl rfl rfl)) rfl ?_
    refine DU (tm' := [(4, _)]) ⟨rfl, trivial⟩ rfl (DStep.yields (mv rfl)) rfl ?_
    refine DU (tm' := [(17, _), (18, _)]) ⟨rfl, rfl, trivial⟩ rfl (DStep.yields (Yields.idx_roN sl28 rfl rfl rfl rfl (by omega))) rfl ?_
    refine DU (tm' := [(19, _)]) ⟨rfl, trivial⟩ rfl (DStep.yields (Yields.load_rop_aggV kd30 rfl (Tr.avs_at hk) rfl)) rfl ?_
    refine DUs (tm' := [(20, _)]) ⟨rfl, trivial⟩ rfl rfl (DStepU.callF (AH.toOwn (by simp [plainL, plainV, Tr.plain_av]) (ih _ (List.mem_of_getElem? hk) (Tr.bnds_get hk3 hk)) (fun r hp' h => ownT.close h)) rfl (WkL.refl _)) rfl ?_
    refine DUs (tm' := []) trivial rfl rfl (DStepU.buildOne sl28 z30 (Tr.avX_cell _ _) (Tr.avX_width _ _) rfl) rfl ?_
    refine DOpsU.nil ?_
    intro Bs
    refine AOps.unseal 0 0 rfl rfl (openT_to _ _ _ _) fun Bk => ?_
    refine AOps.appendE (j := 3) sl28 z30 rfl rfl rfl rfl rfl hA rfl (src_row (j2 := 1) rfl rfl rfl) (show i + 1 = i + 1 from rfl) rfl (by omega) (by omega) fun Bn => ?_
    refine AOps.leads (Leads.seal 2 i rfl (get_one hA) (sealT _ _ _ _ _)) ?_
    refine AOps.leads (Leads.rowEq 2 rfl (show (Tr.avXs Tr.nosp (ks.take i) ++ [openT Bk (.mk ckd cnm ct cks)]).set i (Tr.avX Tr.nosp (.mk ckd cnm ct cks)) = Tr.avXs Tr.nosp (ks.take (i + 1)) by rw [app_one hA, avXs_take ks hk])) ?_
    refine Y (Yields.fieldAddr_ptr fo30_3 rfl) rfl ?_
    refine AOps.storeField (j := 1) kd28 rfl rfl rfl rfl rfl rfl rfl ?_
    refine AOps.nil ?_
    refine AWP.region ?_
    refine Y (mv rfl) rfl ?_
    refine Y (bn rfl rfl (BinR.addI (by omega) (by omega)) rfl) rfl ?_
    refine Y (ass rfl) rfl ?_
    refine AOps.nil ?_
    refine ⟨(Bn, i + 1), ?_, ?_, ?_⟩
    ·
     show ks.length - (i + 1) < ks.length - i
     omega
    ·
     show (i + 1) ≤ ks.length
     omega
    · exact Leads.keepR (KeepR.cons 1 rfl (KeepR.cons 1 rfl (KeepR.cons 1 rfl (KeepR.cons 1 rfl KeepR.nil)))) ⟨rfl, rfl, rfl, rfl, trivial⟩
   ·
    replace g := of_decide_eq_false g
    have hi' : i = ks.length := by omega
    subst hi'
    refine AWP.exit ?_
    refine AWP.seq ?_
    refine AWP.region ?_
    refine Y (Yields.load_ptr_agg (j := 0) kd30 rfl rfl rfl rfl) rfl ?_
    refine AOps.store (j := 2) kd30 rfl rfl rfl rfl rfl rfl ?_
    refine AOps.nil ?_
    refine AWP.ret ⟨.inl rfl, ?_⟩
    exact RetH.of (rs := [.cell 2 30]) (vs := [_]) rfl ⟨resOne.cell (j := 2) rfl rfl kd30 rfl rfl rfl, trivial⟩ (KeepR.cons 1 rfl KeepR.nil) (⟨B, rfl, by rw [Tr.kids, List.take_length]⟩)
def putT : Tr → List Int → Tr → Tr
  | _, [], x => x
  | .mk a b c ks, i :: p, x => .mk a b c (ks.set i.toNat (match ks[i.toNat]? with | some y => putT y p x | none => nilTr))
theorem putT_step {a b : Int} {c : ByteArray} {ks : List Tr} {i : Int} {p : List Int} {x y : Tr} (h : ks[i.toNat]? = some y) : putT (.mk a b c ks) (i :: p) x = .mk a b c (ks.set i.toNat (putT y p x)) := by rw [putT, h]
theorem at_cons {a b : Int} {c : ByteArray} {ks : List Tr} {i : Int} {p : List Int} (h : (atT (.mk a b c ks) (i :: p)).isSome = true) : 0 ≤ i ∧ i < ks.length ∧ ∃ y, ks[i.toNat]? = some y ∧ (atT y p).isSome = true := by
  rw [atT] at h
  split at h
  · rename_i hh
    obtain ⟨y, hy, _⟩ := drop_at (l := ks) (i := i.toNat) (by omega)
    rw [hy] at h
    exact ⟨hh.1, hh.2, y, hy, h⟩
  · cases h
theorem avXs_set (l : List Tr) (i : Nat) (k : Tr) : Tr.avXs Tr.nosp (l.set i k) = (Tr.avXs Tr.nosp l).set i (k.avX Tr.nosp) := by
  induction l generalizing i with
  | nil => rfl
  | cons a l ih =>
    cases i with
    | zero => rfl
    | succ i => simp [Tr.avXs, ih]
theorem cut_ints (i : Int) (p : List Int) : ((ints (i :: p) ++ []).drop 1).take ((ints (i :: p)).length - 1) = ints p := by
  simp [ints]; exact List.take_of_length_le (by simp)
theorem iput_nil (xd xn : Int) (xt : ByteArray) (xks : List Tr) (kd nm : Int) (t : ByteArray) (ks : List Tr) (hx : (Tr.mk xd xn xt xks).bnd 1000000) : FnH 65 [] [Tr.av (.mk kd nm t ks), .ro 1 (ints []) [] false, Tr.av (.mk xd xn xt xks)] (ownT (.mk xd xn xt xks)) := by
  refine AH.intro Try.func65 nm65 rfl rfl rfl fun w0 ok0 own0 => ?_
  refine AWP.seq ?_
  refine AWP.region ?_
  refine AOps.box rfl rfl rfl rfl fun b3 => ?_
  refine AOps.box rfl rfl rfl rfl fun b5 => ?_
  refine AOps.alloc rfl z30 rfl rfl fun b6 => ?_
  refine AOps.nil ?_
  refine AWP.seq ?_
  refine AWP.seq ?_
  refine AWP.region ?_
  refine Y (mv rfl) rfl ?_
  refine Y (Yields.len_ro sl41 rfl) rfl ?_
  refine Y (bn rfl rfl BinR.eql rfl) rfl ?_
  refine AOps.nil ?_
  refine AWP.condT rfl (fun h => ?_) (fun h => ?_)
  ·
   replace h := eq_of_beq h
   refine AWP.seq ?_
   refine AWP.region ?_
   refine Y (Yields.load_ptr_agg (j := 1) kd30 rfl rfl rfl rfl) rfl ?_
   refine AOps.callH (.inl trivial) (icopied_AH (.mk xd xn xt xks) hx) rfl rfl rfl (WkL.refl _) ?_
   rintro _ _ ⟨Bc, rfl, rfl⟩
   refine AOps.store (j := 1) kd30 rfl rfl rfl rfl rfl rfl ?_
   refine AOps.nil ?_
   refine AWP.ret ⟨.inl rfl, ?_⟩
   exact RetH.of (rs := [.cell 6 30]) (vs := [_]) rfl ⟨resOne.cell (j := 1) rfl rfl kd30 rfl rfl rfl, trivial⟩ (KeepR.cons 0 rfl KeepR.nil) (⟨Bc, rfl, rfl⟩)
  ·
   replace h := ne_of_beq_false h
   exact absurd rfl h
theorem iput_cons (xd xn : Int) (xt : ByteArray) (xks : List Tr) (kd nm : Int) (t : ByteArray) (ks : List Tr) (hk : (Tr.mk kd nm t ks).bnd 1000000) (i : Int) (p : List Int) (h0 : 0 ≤ i) (h1 : i < ks.length) (y : Tr) (hy : ks[i.toNat]? = some y) (q : Tr)
    (hq : FnH 65 [] [y.av, .ro 1 (ints p) [] false, Tr.av (.mk xd xn xt xks)] (ownT q)) (hl : p.length + 1 ≤ 1000000) : FnH 65 [] [Tr.av (.mk kd nm t ks), .ro 1 (ints (i :: p)) [] false, Tr.av (.mk xd xn xt xks)] (ownT (.mk kd nm t (ks.set i.toNat q))) := by
  have hlp := ints_length (i :: p)
  have hla := Tr.avs_length ks
  have hlx := Tr.avXs_length Tr.nosp ks
  obtain ⟨yd, yn, yt, yks⟩ := y
  obtain ⟨qd, qn, qt, qks⟩ := q
  refine AH.intro Try.func65 nm65 rfl rfl rfl fun w0 ok0 own0 => ?_
  refine AWP.seq ?_
  refine AWP.region ?_
  refine AOps.box rfl rfl rfl rfl fun b3 => ?_
  refine AOps.box rfl rfl rfl rfl fun b5 => ?_
  refine AOps.alloc rfl z30 rfl rfl fun b6 => ?_
  refine AOps.nil ?_
  refine AWP.seq ?_
  refine AWP.seq ?_
  refine AWP.region ?_
  refine Y (mv rfl) rfl ?_
  refine Y (Yields.len_ro sl41 rfl) rfl ?_
  refine Y (bn rfl rfl BinR.eql rfl) rfl ?_
  refine AOps.nil ?_
  refine AWP.condT rfl (fun h => ?_) (fun h => ?_)
  ·
   replace h := eq_of_beq h
   simp at hlp; omega
  ·
   replace h := ne_of_beq_false h
   refine AWP.skip ?_
   refine AWP.seq ?_
   refine AWP.region ?_
   refine Y (Yields.load_ptr_agg (j := 2) kd30 rfl rfl rfl rfl) rfl ?_
   refine AOps.callH (.inl trivial) (icopied_AH (.mk kd nm t ks) hk) rfl rfl rfl (WkL.refl _) ?_
   rintro _ _ ⟨Bc, rfl, rfl⟩
   refine AOps.alloc rfl z30 rfl rfl fun b7 => ?_
   refine AOps.store (j := 0) kd30 rfl rfl rfl rfl rfl rfl ?_
   refine AOps.nil ?_
   refine AWP.someRow 1 rfl (by intro e; have e := congrArg List.length e; simp only [Tr.kids, hlx, List.length_nil] at e; omega) fun bc hsr => ?_
   subst hsr
   refine AWP.seq ?_
   refine AWP.prune (tm' := [(0, _), (1, _), (2, _), (3, _), (5, _), (6, _), (10, _), (7, _)]) ⟨rfl, rfl, rfl, rfl, rfl, rfl, rfl, rfl, trivial⟩ ?_
   refine AWP.drawnS [] 16 mixed rfl rfl rfl rfl rfl ?_
   refine DU (tm' := [(7, _)]) ⟨rfl, trivial⟩ rfl (DStep.yields (Yields.fieldAddr_ptr fo30_3 rfl)) rfl ?_
   refine DU (tm' := [(15, _)]) ⟨rfl, trivial⟩ rfl (DStep.yields (Yields.load_ptr_field (j := 0) kd28 rfl rfl rfl rfl rfl rfl rfl)) rfl ?_
   refine DU (tm' := [(1, _)]) ⟨rfl, trivial⟩ rfl (DStep.yields (mv rfl)) rfl ?_
   refine DU (tm' := [(17, _)]) ⟨rfl, trivial⟩ rfl (DStep.yields (Yields.idx_roN sl41 rfl rfl rfl (j := 0) rfl (by omega))) rfl ?_
   refine DU (tm' := [(18, _)]) ⟨rfl, trivial⟩ rfl (DStep.yields (Yields.load_rop_one kd3 rfl rfl rfl)) rfl ?_
   refine DU (tm' := [(3, _)]) ⟨rfl, trivial⟩ rfl (DStep.yields (Yields.fieldAddr_ptr fo30_3 rfl)) rfl ?_
   refine DU (tm' := [(20, _)]) ⟨rfl, trivial⟩ rfl (DStep.yields (Yields.load_ptr_field (j := 4) kd28 rfl rfl rfl rfl rfl rfl rfl)) rfl ?_
   refine DU (tm' := [(1, _)]) ⟨rfl, trivial⟩ rfl (DStep.yields (mv rfl)) rfl ?_
   refine DU (tm' := [(22, _)]) ⟨rfl, trivial⟩ rfl (DStep.yields (Yields.idx_roN sl41 rfl rfl rfl (j := 0) rfl (by omega))) rfl ?_
   refine DU (tm' := [(23, _)]) ⟨rfl, trivial⟩ rfl (DStep.yields (Yields.load_rop_one kd3 rfl rfl rfl)) rfl ?_
   refine DU (tm' := [(21, _), (24, _)]) ⟨rfl, rfl, trivial⟩ rfl (DStep.yields (Yields.idx_roN sl28 rfl rfl rfl (j := i.toNat) (by omega) (by omega))) rfl ?_
   refine DU (tm' := [(25, _)]) ⟨rfl, trivial⟩ rfl (DStep.yields (Yields.load_rop_aggV kd30 rfl (Tr.avs_at hy) rfl)) rfl ?_
   refine DU (tm' := [(1, _)]) ⟨rfl, trivial⟩ rfl (DStep.yields (mv rfl)) rfl ?_
   refine DU (tm' := [(27, _)]) ⟨rfl, trivial⟩ rfl (DStep.yields (Yields.slice_ro sl41 rfl (l := 1) (u := (ints (i :: p)).length) ⟨.i64, rfl⟩ rfl (by omega) (by simp))) rfl ?_
   refine DU (tm' := [(5, _)]) ⟨rfl, trivial⟩ rfl (DStep.yields (Yields.load_ptr_agg (j := 3) kd30 rfl rfl rfl rfl)) rfl ?_
   refine DUs (tm' := [(26, _), (28, _), (29, _)]) ⟨rfl, rfl, rfl, trivial⟩ rfl rfl (DStepU.callF (AH.toOwn (by simp [plainL, plainV, Tr.plain_av]) hq (fun r hp' h => ownT.close h)) rfl ⟨Wk.refl _, Wk.ro (cut_ints i p ▸ WkL.refl _), Wk.refl _, trivial⟩) rfl ?_
   refine DOpsU.nil ?_
   intro _ _ hoBk
   obtain ⟨Bk, rfl, rfl⟩ := opn_avT hoBk
   refine Y (Yields.idx_locN sl28 rfl rfl (j := i.toNat) (by omega) (by omega)) rfl ?_
   refine AOps.store (j := 2) kd30 rfl rfl (i := 0 + i.toNat) (by rw [Nat.zero_add]; exact Tr.avXs_at hy) rfl rfl rfl ?_
   refine AOps.nil ?_
   refine AWP.seq ?_
   refine AWP.region ?_
   refine AOps.leads (Leads.seal 1 i.toNat rfl (by rw [Nat.zero_add, List.getElem?_set_self (by simp only [Tr.kids, hlx]; omega)]) (sealT _ _ _ _ _)) ?_
   refine AOps.leads (Leads.rowEq 1 rfl (show ((Tr.avXs Tr.nosp ks).set (0 + i.toNat) (openT Bk (.mk qd qn qt qks))).set i.toNat (Tr.avX Tr.nosp (.mk qd qn qt qks)) = Tr.avXs Tr.nosp (ks.set i.toNat (.mk qd qn qt qks)) by rw [Nat.zero_add, List.set_set, avXs_set])) ?_
   refine Y (Yields.load_ptr_agg (j := 0) kd30 rfl rfl rfl rfl) rfl ?_
   refine AOps.store (j := 2) kd30 rfl rfl rfl rfl rfl rfl ?_
   refine AOps.nil ?_
   refine AWP.ret ⟨.inl rfl, ?_⟩
   exact RetH.of (rs := [.cell 6 30]) (vs := [_]) rfl ⟨resOne.cell (j := 2) rfl rfl kd30 rfl rfl rfl, trivial⟩ (KeepR.cons 1 rfl KeepR.nil) (⟨some bc, by rw [openT, List.length_set]; rfl, rfl⟩)
theorem iput_AH (x : Tr) (hx : x.bnd 1000000) : ∀ (p : List Int) (k : Tr), k.bnd 1000000 → (atT k p).isSome = true → p.length ≤ 1000000 → FnH 65 [] [k.av, .ro 1 (ints p) [] false, x.av] (ownT (putT k p x)) := by
  obtain ⟨xd, xn, xt, xks⟩ := x
  intro p
  induction p with
  | nil =>
    intro k hk hs hl
    obtain ⟨kd, nm, t, ks⟩ := k
    exact iput_nil xd xn xt xks kd nm t ks hx
  | cons i p ih =>
    intro k hk hs hl
    obtain ⟨kd, nm, t, ks⟩ := k
    obtain ⟨h0, h1, y, hy, hys⟩ := at_cons hs
    have hky : y.bnd 1000000 := Tr.bnds_get hk.2.2 hy
    have hq := ih y hky hys (by simp at hl; omega)
    rw [putT_step hy]
    generalize putT y p (.mk xd xn xt xks) = q at hq ⊢
    exact iput_cons xd xn xt xks kd nm t ks hk i p h0 h1 y hy q hq (by simpa using hl)
theorem sput_nil (xd xn : Int) (xt : ByteArray) (xks : List Tr) (kd nm : Int) (t : ByteArray) (ks : List Tr) (hx : (Tr.mk xd xn xt xks).bnd 1000000) : FnH 64 [] [Tr.av (.mk kd nm t ks), .ro 1 (ints []) [] false, Tr.av (.mk xd xn xt xks)] (ownT (.mk xd xn xt xks)) := by
  refine AH.intro Try.func64 nm64 rfl rfl rfl fun w0 ok0 own0 => ?_
  refine AWP.seq ?_
  refine AWP.region ?_
  refine AOps.box rfl rfl rfl rfl fun b3 => ?_
  refine AOps.box rfl rfl rfl rfl fun b5 => ?_
  refine AOps.alloc rfl z30 rfl rfl fun b6 => ?_
  refine AOps.nil ?_
  refine AWP.seq ?_
  refine AWP.seq ?_
  refine AWP.region ?_
  refine Y (mv rfl) rfl ?_
  refine Y (Yields.len_ro sl41 rfl) rfl ?_
  refine Y (bn rfl rfl BinR.eql rfl) rfl ?_
  refine AOps.nil ?_
  refine AWP.condT rfl (fun h => ?_) (fun h => ?_)
  ·
   replace h := eq_of_beq h
   refine AWP.seq ?_
   refine AWP.region ?_
   refine Y (Yields.load_ptr_agg (j := 1) kd30 rfl rfl rfl rfl) rfl ?_
   refine AOps.callH (.inl trivial) (scopied_AH (.mk xd xn xt xks) hx) rfl rfl rfl (WkL.refl _) ?_
   rintro _ _ ⟨Bc, rfl, rfl⟩
   refine AOps.store (j := 1) kd30 rfl rfl rfl rfl rfl rfl ?_
   refine AOps.nil ?_
   refine AWP.ret ⟨.inl rfl, ?_⟩
   exact RetH.of (rs := [.cell 6 30]) (vs := [_]) rfl ⟨resOne.cell (j := 1) rfl rfl kd30 rfl rfl rfl, trivial⟩ (KeepR.cons 0 rfl KeepR.nil) (⟨Bc, rfl, rfl⟩)
  ·
   replace h := ne_of_beq_false h
   exact absurd rfl h
theorem sput_cons (xd xn : Int) (xt : ByteArray) (xks : List Tr) (kd nm : Int) (t : ByteArray) (ks : List Tr) (hk : (Tr.mk kd nm t ks).bnd 1000000) (i : Int) (p : List Int) (h0 : 0 ≤ i) (h1 : i < ks.length) (y : Tr) (hy : ks[i.toNat]? = some y) (q : Tr)
    (hq : FnH 64 [] [y.av, .ro 1 (ints p) [] false, Tr.av (.mk xd xn xt xks)] (ownT q)) (hl : p.length + 1 ≤ 1000000) : FnH 64 [] [Tr.av (.mk kd nm t ks), .ro 1 (ints (i :: p)) [] false, Tr.av (.mk xd xn xt xks)] (ownT (.mk kd nm t (ks.set i.toNat q))) := by
  have hlp := ints_length (i :: p)
  have hla := Tr.avs_length ks
  have hlx := Tr.avXs_length Tr.nosp ks
  obtain ⟨yd, yn, yt, yks⟩ := y
  obtain ⟨qd, qn, qt, qks⟩ := q
  refine AH.intro Try.func64 nm64 rfl rfl rfl fun w0 ok0 own0 => ?_
  refine AWP.seq ?_
  refine AWP.region ?_
  refine AOps.box rfl rfl rfl rfl fun b3 => ?_
  refine AOps.box rfl rfl rfl rfl fun b5 => ?_
  refine AOps.alloc rfl z30 rfl rfl fun b6 => ?_
  refine AOps.nil ?_
  refine AWP.seq ?_
  refine AWP.seq ?_
  refine AWP.region ?_
  refine Y (mv rfl) rfl ?_
  refine Y (Yields.len_ro sl41 rfl) rfl ?_
  refine Y (bn rfl rfl BinR.eql rfl) rfl ?_
  refine AOps.nil ?_
  refine AWP.condT rfl (fun h => ?_) (fun h => ?_)
  ·
   replace h := eq_of_beq h
   simp at hlp; omega
  ·
   replace h := ne_of_beq_false h
   refine AWP.skip ?_
   refine AWP.seq ?_
   refine AWP.region ?_
   refine Y (Yields.load_ptr_agg (j := 2) kd30 rfl rfl rfl rfl) rfl ?_
   refine AOps.callH (.inl trivial) (scopied_AH (.mk kd nm t ks) hk) rfl rfl rfl (WkL.refl _) ?_
   rintro _ _ ⟨Bc, rfl, rfl⟩
   refine AOps.alloc rfl z30 rfl rfl fun b7 => ?_
   refine AOps.store (j := 0) kd30 rfl rfl rfl rfl rfl rfl ?_
   refine AOps.nil ?_
   refine AWP.someRow 1 rfl (by intro e; have e := congrArg List.length e; simp only [Tr.kids, hlx, List.length_nil] at e; omega) fun bc hsr => ?_
   subst hsr
   refine AWP.seq ?_
   refine AWP.prune (tm' := [(0, _), (1, _), (2, _), (3, _), (5, _), (6, _), (10, _), (7, _)]) ⟨rfl, rfl, rfl, rfl, rfl, rfl, rfl, rfl, trivial⟩ ?_
   refine AWP.drawnS [] 16 mixed rfl rfl rfl rfl rfl ?_
   refine DU (tm' := [(7, _)]) ⟨rfl, trivial⟩ rfl (DStep.yields (Yields.fieldAddr_ptr fo30_3 rfl)) rfl ?_
   refine DU (tm' := [(15, _)]) ⟨rfl, trivial⟩ rfl (DStep.yields (Yields.load_ptr_field (j := 0) kd28 rfl rfl rfl rfl rfl rfl rfl)) rfl ?_
   refine DU (tm' := [(1, _)]) ⟨rfl, trivial⟩ rfl (DStep.yields (mv rfl)) rfl ?_
   refine DU (tm' := [(17, _)]) ⟨rfl, trivial⟩ rfl (DStep.yields (Yields.idx_roN sl41 rfl rfl rfl (j := 0) rfl (by omega))) rfl ?_
   refine DU (tm' := [(18, _)]) ⟨rfl, trivial⟩ rfl (DStep.yields (Yields.load_rop_one kd3 rfl rfl rfl)) rfl ?_
   refine DU (tm' := [(3, _)]) ⟨rfl, trivial⟩ rfl (DStep.yields (Yields.fieldAddr_ptr fo30_3 rfl)) rfl ?_
   refine DU (tm' := [(20, _)]) ⟨rfl, trivial⟩ rfl (DStep.yields (Yields.load_ptr_field (j := 4) kd28 rfl rfl rfl rfl rfl rfl rfl)) rfl ?_
   refine DU (tm' := [(1, _)]) ⟨rfl, trivial⟩ rfl (DStep.yields (mv rfl)) rfl ?_
   refine DU (tm' := [(22, _)]) ⟨rfl, trivial⟩ rfl (DStep.yields (Yields.idx_roN sl41 rfl rfl rfl (j := 0) rfl (by omega))) rfl ?_
   refine DU (tm' := [(23, _)]) ⟨rfl, trivial⟩ rfl (DStep.yields (Yields.load_rop_one kd3 rfl rfl rfl)) rfl ?_
   refine DU (tm' := [(21, _), (24, _)]) ⟨rfl, rfl, trivial⟩ rfl (DStep.yields (Yields.idx_roN sl28 rfl rfl rfl (j := i.toNat) (by omega) (by omega))) rfl ?_
   refine DU (tm' := [(25, _)]) ⟨rfl, trivial⟩ rfl (DStep.yields (Yields.load_rop_aggV kd30 rfl (Tr.avs_at hy) rfl)) rfl ?_
   refine DU (tm' := [(1, _)]) ⟨rfl, trivial⟩ rfl (DStep.yields (mv rfl)) rfl ?_
   refine DU (tm' := [(27, _)]) ⟨rfl, trivial⟩ rfl (DStep.yields (Yields.slice_ro sl41 rfl (l := 1) (u := (ints (i :: p)).length) ⟨.i64, rfl⟩ rfl (by omega) (by simp))) rfl ?_
   refine DU (tm' := [(5, _)]) ⟨rfl, trivial⟩ rfl (DStep.yields (Yields.load_ptr_agg (j := 3) kd30 rfl rfl rfl rfl)) rfl ?_
   refine DUs (tm' := [(26, _), (28, _), (29, _)]) ⟨rfl, rfl, rfl, trivial⟩ rfl rfl (DStepU.callF (AH.toOwn (by simp [plainL, plainV, Tr.plain_av]) hq (fun r hp' h => ownT.close h)) rfl ⟨Wk.refl _, Wk.ro (cut_ints i p ▸ WkL.refl _), Wk.refl _, trivial⟩) rfl ?_
   refine DOpsU.nil ?_
   intro _ _ hoBk
   obtain ⟨Bk, rfl, rfl⟩ := opn_avT hoBk
   refine Y (Yields.idx_locN sl28 rfl rfl (j := i.toNat) (by omega) (by omega)) rfl ?_
   refine AOps.store (j := 2) kd30 rfl rfl (i := 0 + i.toNat) (by rw [Nat.zero_add]; exact Tr.avXs_at hy) rfl rfl rfl ?_
   refine AOps.nil ?_
   refine AWP.seq ?_
   refine AWP.region ?_
   refine AOps.leads (Leads.seal 1 i.toNat rfl (by rw [Nat.zero_add, List.getElem?_set_self (by simp only [Tr.kids, hlx]; omega)]) (sealT _ _ _ _ _)) ?_
   refine AOps.leads (Leads.rowEq 1 rfl (show ((Tr.avXs Tr.nosp ks).set (0 + i.toNat) (openT Bk (.mk qd qn qt qks))).set i.toNat (Tr.avX Tr.nosp (.mk qd qn qt qks)) = Tr.avXs Tr.nosp (ks.set i.toNat (.mk qd qn qt qks)) by rw [Nat.zero_add, List.set_set, avXs_set])) ?_
   refine Y (Yields.load_ptr_agg (j := 0) kd30 rfl rfl rfl rfl) rfl ?_
   refine AOps.store (j := 2) kd30 rfl rfl rfl rfl rfl rfl ?_
   refine AOps.nil ?_
   refine AWP.ret ⟨.inl rfl, ?_⟩
   exact RetH.of (rs := [.cell 6 30]) (vs := [_]) rfl ⟨resOne.cell (j := 2) rfl rfl kd30 rfl rfl rfl, trivial⟩ (KeepR.cons 1 rfl KeepR.nil) (⟨some bc, by rw [openT, List.length_set]; rfl, rfl⟩)
theorem sput_AH (x : Tr) (hx : x.bnd 1000000) : ∀ (p : List Int) (k : Tr), k.bnd 1000000 → (atT k p).isSome = true → p.length ≤ 1000000 → FnH 64 [] [k.av, .ro 1 (ints p) [] false, x.av] (ownT (putT k p x)) := by
  obtain ⟨xd, xn, xt, xks⟩ := x
  intro p
  induction p with
  | nil =>
    intro k hk hs hl
    obtain ⟨kd, nm, t, ks⟩ := k
    exact sput_nil xd xn xt xks kd nm t ks hx
  | cons i p ih =>
    intro k hk hs hl
    obtain ⟨kd, nm, t, ks⟩ := k
    obtain ⟨h0, h1, y, hy, hys⟩ := at_cons hs
    have hky : y.bnd 1000000 := Tr.bnds_get hk.2.2 hy
    have hq := ih y hky hys (by simp at hl; omega)
    rw [putT_step hy]
    generalize putT y p (.mk xd xn xt xks) = q at hq ⊢
    exact sput_cons xd xn xt xks kd nm t ks hk i p h0 h1 y hy q hq (by simpa using hl)
end Go.Proofs.Ytccdgppplkfjfaa
