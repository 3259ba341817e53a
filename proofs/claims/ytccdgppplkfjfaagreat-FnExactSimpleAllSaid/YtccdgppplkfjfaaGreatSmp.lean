/- Simpler expressions: literals, operators. -/
import Derived.Test.YtccdgppplkfjfaaGreatHas
import Derived.Test.YtccdgppplkfjfaaGreatSame
namespace Go.Proofs.YtccdgppplkfjfaaGreat
open Go Go.Ax Go.Proofs
set_option linter.unusedVariables false
set_option linter.unusedSimpArgs false
set_option maxRecDepth 20000
abbrev oPlus : ByteArray := ⟨#[43]⟩
abbrev oMinus : ByteArray := ⟨#[45]⟩
abbrev oTimes : ByteArray := ⟨#[42]⟩
abbrev oLess : ByteArray := ⟨#[60]⟩
abbrev oSame : ByteArray := ⟨#[61, 61]⟩
abbrev oAnd : ByteArray := ⟨#[38]⟩
abbrev oOr : ByteArray := ⟨#[124]⟩
def isI : Tr → Int → Bool
  | .mk k n _ _, m => decide (k = 0) && decide (n = m)
def isB : Tr → Int → Bool
  | .mk k n _ _, m => decide (k = 1) && decide (n = m)
theorem wk_leafV (k n : Int) (t : ByteArray) : Wk (.agg [int k, int n, str t, .val (.slice none 0 0)]) (Tr.av (.mk k n t [])) := Wk.agg (ps := [int k, int n, str t, .ro 4 [] [] false]) ⟨Wk.refl _, Wk.refl _, Wk.refl _, Wk.nil, trivial⟩
theorem iisBool_AF (kd nm : Int) (t : ByteArray) (ks : List Tr) (m : Int) : Fn 42 [Tr.av (.mk kd nm t ks), int m] (bool (isB (.mk kd nm t ks) m)) := by
  refine AF.intro Tryz.func42 nm42 rfl rfl rfl rfl fun w0 ok0 => ?_
  refine AWP.seq ?_
  refine AWP.region ?_
  refine AOps.box rfl rfl rfl rfl fun b1 => ?_
  refine Y (ass rfl) rfl ?_
  refine AOps.nil ?_
  refine AWP.seq ?_
  refine AWP.region ?_
  refine Y (Yields.fieldAddr_ptr fo28_0 rfl) rfl ?_
  refine Y (Yields.load_ptr_field (j := 0) kd3 rfl rfl rfl rfl rfl rfl rfl) rfl ?_
  refine Y (bn rfl rfl BinR.eql rfl) rfl ?_
  refine Y (mv rfl) rfl ?_
  refine AOps.split 8 rfl (fun g => ?_) (fun g => ?_)
  ·
   replace g := eq_of_beq g
   refine AOps.on rfl rfl ?_
   refine Y (Yields.fieldAddr_ptr fo28_1 rfl) rfl ?_
   refine AOps.on rfl rfl ?_
   refine Y (Yields.load_ptr_field (j := 0) kd3 rfl rfl rfl rfl rfl rfl rfl) rfl ?_
   refine AOps.on rfl rfl ?_
   refine Y (mv rfl) rfl ?_
   refine AOps.on rfl rfl ?_
   refine Y (bn rfl rfl BinR.eql rfl) rfl ?_
   refine Y (Yields.pick_true rfl rfl) rfl ?_
   refine Y (ass rfl) rfl ?_
   refine AOps.nil ?_
   refine AWP.ret ⟨.inl rfl, ?_⟩
   exact RetIs.oneV rfl rfl (by (rw [isB, decide_eq_true g, Bool.true_and]; rfl) <;> rfl)
  ·
   replace g := ne_of_beq_false g
   refine AOps.off' rfl rfl rfl rfl ?_
   refine AOps.off' rfl rfl rfl rfl ?_
   refine AOps.off' rfl rfl rfl rfl ?_
   refine AOps.off' rfl rfl rfl rfl ?_
   refine Y (Yields.pick_false rfl rfl) rfl ?_
   refine Y (ass rfl) rfl ?_
   refine AOps.nil ?_
   refine AWP.ret ⟨.inl rfl, ?_⟩
   exact RetIs.oneV rfl rfl (by (rw [isB, decide_eq_false g]; rfl) <;> rfl)
theorem iisInt_AF (kd nm : Int) (t : ByteArray) (ks : List Tr) (m : Int) : Fn 71 [Tr.av (.mk kd nm t ks), int m] (bool (isI (.mk kd nm t ks) m)) := by
  refine AF.intro Tryz.func71 nm71 rfl rfl rfl rfl fun w0 ok0 => ?_
  refine AWP.seq ?_
  refine AWP.region ?_
  refine AOps.box rfl rfl rfl rfl fun b1 => ?_
  refine Y (ass rfl) rfl ?_
  refine AOps.nil ?_
  refine AWP.seq ?_
  refine AWP.region ?_
  refine Y (Yields.fieldAddr_ptr fo28_0 rfl) rfl ?_
  refine Y (Yields.load_ptr_field (j := 0) kd3 rfl rfl rfl rfl rfl rfl rfl) rfl ?_
  refine Y (bn rfl rfl BinR.eql rfl) rfl ?_
  refine Y (mv rfl) rfl ?_
  refine AOps.split 8 rfl (fun g => ?_) (fun g => ?_)
  ·
   replace g := eq_of_beq g
   refine AOps.on rfl rfl ?_
   refine Y (Yields.fieldAddr_ptr fo28_1 rfl) rfl ?_
   refine AOps.on rfl rfl ?_
   refine Y (Yields.load_ptr_field (j := 0) kd3 rfl rfl rfl rfl rfl rfl rfl) rfl ?_
   refine AOps.on rfl rfl ?_
   refine Y (mv rfl) rfl ?_
   refine AOps.on rfl rfl ?_
   refine Y (bn rfl rfl BinR.eql rfl) rfl ?_
   refine Y (Yields.pick_true rfl rfl) rfl ?_
   refine Y (ass rfl) rfl ?_
   refine AOps.nil ?_
   refine AWP.ret ⟨.inl rfl, ?_⟩
   exact RetIs.oneV rfl rfl (by (rw [isI, decide_eq_true g, Bool.true_and]; rfl) <;> rfl)
  ·
   replace g := ne_of_beq_false g
   refine AOps.off' rfl rfl rfl rfl ?_
   refine AOps.off' rfl rfl rfl rfl ?_
   refine AOps.off' rfl rfl rfl rfl ?_
   refine AOps.off' rfl rfl rfl rfl ?_
   refine Y (Yields.pick_false rfl rfl) rfl ?_
   refine Y (ass rfl) rfl ?_
   refine AOps.nil ?_
   refine AWP.ret ⟨.inl rfl, ?_⟩
   exact RetIs.oneV rfl rfl (by (rw [isI, decide_eq_false g]; rfl) <;> rfl)
theorem sisInt_AF (kd nm : Int) (t : ByteArray) (ks : List Tr) (m : Int) : Fn 58 [Tr.av (.mk kd nm t ks), int m] (bool (isI (.mk kd nm t ks) m)) := by
  refine AF.intro Tryz.func58 nm58 rfl rfl rfl rfl fun w0 ok0 => ?_
  refine AWP.seq ?_
  refine AWP.region ?_
  refine AOps.box rfl rfl rfl rfl fun b1 => ?_
  refine Y (ass rfl) rfl ?_
  refine AOps.nil ?_
  refine AWP.seq ?_
  refine AWP.region ?_
  refine Y (Yields.fieldAddr_ptr fo28_0 rfl) rfl ?_
  refine Y (Yields.load_ptr_field (j := 0) kd3 rfl rfl rfl rfl rfl rfl rfl) rfl ?_
  refine Y (bn rfl rfl BinR.eql rfl) rfl ?_
  refine Y (mv rfl) rfl ?_
  refine AOps.split 8 rfl (fun g => ?_) (fun g => ?_)
  ·
   replace g := eq_of_beq g
   refine AOps.on rfl rfl ?_
   refine Y (Yields.fieldAddr_ptr fo28_1 rfl) rfl ?_
   refine AOps.on rfl rfl ?_
   refine Y (Yields.load_ptr_field (j := 0) kd3 rfl rfl rfl rfl rfl rfl rfl) rfl ?_
   refine AOps.on rfl rfl ?_
   refine Y (mv rfl) rfl ?_
   refine AOps.on rfl rfl ?_
   refine Y (bn rfl rfl BinR.eql rfl) rfl ?_
   refine Y (Yields.pick_true rfl rfl) rfl ?_
   refine Y (ass rfl) rfl ?_
   refine AOps.nil ?_
   refine AWP.ret ⟨.inl rfl, ?_⟩
   exact RetIs.oneV rfl rfl (by (rw [isI, decide_eq_true g, Bool.true_and]; rfl) <;> rfl)
  ·
   replace g := ne_of_beq_false g
   refine AOps.off' rfl rfl rfl rfl ?_
   refine AOps.off' rfl rfl rfl rfl ?_
   refine AOps.off' rfl rfl rfl rfl ?_
   refine AOps.off' rfl rfl rfl rfl ?_
   refine Y (Yields.pick_false rfl rfl) rfl ?_
   refine Y (ass rfl) rfl ?_
   refine AOps.nil ?_
   refine AWP.ret ⟨.inl rfl, ?_⟩
   exact RetIs.oneV rfl rfl (by (rw [isI, decide_eq_false g]; rfl) <;> rfl)
theorem sisTruth_AF (kd nm : Int) (t : ByteArray) (ks : List Tr) (m : Bool) (h : kd = 1 → nm = 0 ∨ nm = 1) : Fn 51 [Tr.av (.mk kd nm t ks), bool m] (bool (isB (.mk kd nm t ks) (if m = true then 1 else 0))) := by
  refine AF.intro Tryz.func51 nm51 rfl rfl rfl rfl fun w0 ok0 => ?_
  refine AWP.seq ?_
  refine AWP.region ?_
  refine AOps.box rfl rfl rfl rfl fun b1 => ?_
  refine Y (ass rfl) rfl ?_
  refine AOps.nil ?_
  refine AWP.seq ?_
  refine AWP.region ?_
  refine Y (Yields.fieldAddr_ptr fo28_0 rfl) rfl ?_
  refine Y (Yields.load_ptr_field (j := 0) kd3 rfl rfl rfl rfl rfl rfl rfl) rfl ?_
  refine Y (bn rfl rfl BinR.eql rfl) rfl ?_
  refine Y (mv rfl) rfl ?_
  refine AOps.split 8 rfl (fun g => ?_) (fun g => ?_)
  ·
   replace g := eq_of_beq g
   have e : ((nm == 1) == m) = decide (nm = if m = true then 1 else 0) := by rcases h g with rfl | rfl <;> cases m <;> rfl
   refine AOps.on rfl rfl ?_
   refine Y (Yields.fieldAddr_ptr fo28_1 rfl) rfl ?_
   refine AOps.on rfl rfl ?_
   refine Y (Yields.load_ptr_field (j := 0) kd3 rfl rfl rfl rfl rfl rfl rfl) rfl ?_
   refine AOps.on rfl rfl ?_
   refine Y (bn rfl rfl BinR.eql rfl) rfl ?_
   refine AOps.on rfl rfl ?_
   refine Y (mv rfl) rfl ?_
   refine AOps.on rfl rfl ?_
   refine Y (bn rfl rfl (BinR.beql Tryz.underlying4) rfl) rfl ?_
   refine Y (Yields.pick_true rfl rfl) rfl ?_
   refine Y (ass rfl) rfl ?_
   refine AOps.nil ?_
   refine AWP.ret ⟨.inl rfl, ?_⟩
   exact RetIs.oneV rfl rfl (by (rw [isB, decide_eq_true g, Bool.true_and, ← e]) <;> rfl)
  ·
   replace g := ne_of_beq_false g
   refine AOps.off' rfl rfl rfl rfl ?_
   refine AOps.off' rfl rfl rfl rfl ?_
   refine AOps.off' rfl rfl rfl rfl ?_
   refine AOps.off' rfl rfl rfl rfl ?_
   refine AOps.off' rfl rfl rfl rfl ?_
   refine Y (Yields.pick_false rfl rfl) rfl ?_
   refine Y (ass rfl) rfl ?_
   refine AOps.nil ?_
   refine AWP.ret ⟨.inl rfl, ?_⟩
   exact RetIs.oneV rfl rfl (by (rw [isB, decide_eq_false g]; rfl) <;> rfl)
theorem truthOf_AF (m : Bool) : Fn 41 [bool m] (Tr.av (.mk 1 (if m = true then 1 else 0) ⟨#[]⟩ [])) := by
  refine AH.toF rfl (post := isV' (Tr.av (.mk 1 (if m = true then 1 else 0) ⟨#[]⟩ []))) ?_ (fun r hp' h => isV'.fz rfl h)
  refine AH.intro Tryz.func41 nm41 rfl rfl rfl fun w0 ok0 own0 => ?_
  refine AWP.seq ?_
  refine AWP.region ?_
  refine AOps.alloc rfl z28 rfl rfl fun b2 => ?_
  refine AOps.nil ?_
  refine AWP.seq ?_
  refine AWP.seq ?_
  refine AWP.region ?_
  refine Y (mv rfl) rfl ?_
  refine AOps.nil ?_
  refine AWP.condT rfl (fun c => ?_) (fun c => ?_)
  ·
   skip
   refine AWP.seq ?_
   refine AWP.region ?_
   refine Y (Yields.build pl28 z28 rfl rfl) rfl ?_
   refine AOps.store (j := 0) kd28 rfl rfl rfl rfl rfl rfl ?_
   refine AOps.nil ?_
   refine AWP.leads (Leads.rowWk 0 0 rfl rfl (wk_leafV _ _ _)) ?_
   refine AWP.ret ⟨.inl rfl, ?_⟩
   exact RetH.of (rs := [.cell 2 28]) (vs := [_]) rfl ⟨resOne.cell (j := 0) rfl rfl kd28 rfl rfl rfl, trivial⟩ KeepR.nil (⟨by subst c; rfl, rfl⟩)
  ·
   skip
   refine AWP.skip ?_
   refine AWP.seq ?_
   refine AWP.region ?_
   refine Y (Yields.build pl28 z28 rfl rfl) rfl ?_
   refine AOps.store (j := 0) kd28 rfl rfl rfl rfl rfl rfl ?_
   refine AOps.nil ?_
   refine AWP.leads (Leads.rowWk 0 0 rfl rfl (wk_leafV _ _ _)) ?_
   refine AWP.ret ⟨.inl rfl, ?_⟩
   exact RetH.of (rs := [.cell 2 28]) (vs := [_]) rfl ⟨resOne.cell (j := 0) rfl rfl kd28 rfl rfl rfl, trivial⟩ KeepR.nil (⟨by subst c; rfl, rfl⟩)
theorem boolean_AF (m : Bool) : Fn 86 [bool m] (Tr.av (.mk 1 (if m = true then 1 else 0) ⟨#[]⟩ [])) := by
  refine AH.toF rfl (post := isV' (Tr.av (.mk 1 (if m = true then 1 else 0) ⟨#[]⟩ []))) ?_ (fun r hp' h => isV'.fz rfl h)
  refine AH.intro Tryz.func86 nm86 rfl rfl rfl fun w0 ok0 own0 => ?_
  refine AWP.seq ?_
  refine AWP.region ?_
  refine AOps.alloc rfl z65 rfl rfl fun b2 => ?_
  refine AOps.nil ?_
  refine AWP.seq ?_
  refine AWP.seq ?_
  refine AWP.region ?_
  refine Y (mv rfl) rfl ?_
  refine AOps.nil ?_
  refine AWP.condT rfl (fun c => ?_) (fun c => ?_)
  ·
   skip
   refine AWP.seq ?_
   refine AWP.region ?_
   refine Y (Yields.build pl65 z65 rfl rfl) rfl ?_
   refine AOps.store (j := 0) kd65 rfl rfl rfl rfl rfl rfl ?_
   refine AOps.nil ?_
   refine AWP.leads (Leads.rowWk 0 0 rfl rfl (wk_leafV _ _ _)) ?_
   refine AWP.ret ⟨.inl rfl, ?_⟩
   exact RetH.of (rs := [.cell 2 65]) (vs := [_]) rfl ⟨resOne.cell (j := 0) rfl rfl kd65 rfl rfl rfl, trivial⟩ KeepR.nil (⟨by subst c; rfl, rfl⟩)
  ·
   skip
   refine AWP.skip ?_
   refine AWP.seq ?_
   refine AWP.region ?_
   refine Y (Yields.build pl65 z65 rfl rfl) rfl ?_
   refine AOps.store (j := 0) kd65 rfl rfl rfl rfl rfl rfl ?_
   refine AOps.nil ?_
   refine AWP.leads (Leads.rowWk 0 0 rfl rfl (wk_leafV _ _ _)) ?_
   refine AWP.ret ⟨.inl rfl, ?_⟩
   exact RetH.of (rs := [.cell 2 65]) (vs := [_]) rfl ⟨resOne.cell (j := 0) rfl rfl kd65 rfl rfl rfl, trivial⟩ KeepR.nil (⟨by subst c; rfl, rfl⟩)
theorem struth_AF (m : Bool) : Fn 78 [bool m] (Tr.av (.mk 1 (if m = true then 1 else 0) ⟨#[]⟩ [])) := by
  refine AH.toF rfl (post := isV' (Tr.av (.mk 1 (if m = true then 1 else 0) ⟨#[]⟩ []))) ?_ (fun r hp' h => isV'.fz rfl h)
  refine AH.intro Tryz.func78 nm78 rfl rfl rfl fun w0 ok0 own0 => ?_
  refine AWP.seq ?_
  refine AWP.region ?_
  refine AOps.alloc rfl z65 rfl rfl fun b2 => ?_
  refine AOps.nil ?_
  refine AWP.seq ?_
  refine AWP.seq ?_
  refine AWP.region ?_
  refine Y (mv rfl) rfl ?_
  refine AOps.nil ?_
  refine AWP.condT rfl (fun c => ?_) (fun c => ?_)
  ·
   skip
   refine AWP.seq ?_
   refine AWP.region ?_
   refine Y (Yields.build pl65 z65 rfl rfl) rfl ?_
   refine AOps.store (j := 0) kd65 rfl rfl rfl rfl rfl rfl ?_
   refine AOps.nil ?_
   refine AWP.leads (Leads.rowWk 0 0 rfl rfl (wk_leafV _ _ _)) ?_
   refine AWP.ret ⟨.inl rfl, ?_⟩
   exact RetH.of (rs := [.cell 2 65]) (vs := [_]) rfl ⟨resOne.cell (j := 0) rfl rfl kd65 rfl rfl rfl, trivial⟩ KeepR.nil (⟨by subst c; rfl, rfl⟩)
  ·
   skip
   refine AWP.skip ?_
   refine AWP.seq ?_
   refine AWP.region ?_
   refine Y (Yields.build pl65 z65 rfl rfl) rfl ?_
   refine AOps.store (j := 0) kd65 rfl rfl rfl rfl rfl rfl ?_
   refine AOps.nil ?_
   refine AWP.leads (Leads.rowWk 0 0 rfl rfl (wk_leafV _ _ _)) ?_
   refine AWP.ret ⟨.inl rfl, ?_⟩
   exact RetH.of (rs := [.cell 2 65]) (vs := [_]) rfl ⟨resOne.cell (j := 0) rfl rfl kd65 rfl rfl rfl, trivial⟩ KeepR.nil (⟨by subst c; rfl, rfl⟩)
def shortB (s : ByteArray) : ByteArray := s.extract 0 (min s.size 20)
theorem short_AF (s : ByteArray) (hs : s.size ≤ 4000000) : Fn 76 [str s] (str (shortB s)) := by
  refine AF.intro Tryz.func76 nm76 rfl rfl rfl rfl fun w0 ok0 => ?_
  refine AWP.seq ?_
  refine AWP.region ?_
  refine Y (ass rfl) rfl ?_
  refine AOps.nil ?_
  refine AWP.seq ?_
  refine AWP.seq ?_
  refine AWP.region ?_
  refine Y (mv rfl) rfl ?_
  refine Y (Yields.len_str Tryz.underlying9 rfl) rfl ?_
  refine Y (bn rfl rfl BinR.gtr rfl) rfl ?_
  refine AOps.nil ?_
  refine AWP.condT rfl (fun c => ?_) (fun c => ?_)
  ·
   replace c := of_decide_eq_true c
   refine AWP.seq ?_
   refine AWP.region ?_
   refine Y (mv rfl) rfl ?_
   refine Y (Yields.slice_str Tryz.underlying9 rfl (l := 0) (u := 20) rfl ⟨.i64, rfl⟩ (by omega) (by omega)) rfl ?_
   refine Y (ass rfl) rfl ?_
   refine AOps.nil ?_
   refine AWP.ret ⟨.inl rfl, ?_⟩
   exact RetIs.oneV rfl rfl (by (rw [shortB, Nat.min_eq_right (by omega)]) <;> rfl)
  ·
   replace c := of_decide_eq_false c
   refine AWP.skip ?_
   refine AWP.seq ?_
   refine AWP.region ?_
   refine Y (mv rfl) rfl ?_
   refine Y (ass rfl) rfl ?_
   refine AOps.nil ?_
   refine AWP.ret ⟨.inl rfl, ?_⟩
   exact RetIs.oneV rfl rfl (by (rw [shortB, Nat.min_eq_left (by omega), ByteArray.extract_zero_size]) <;> rfl)
theorem tmod_bnd (n : Int) : -10000 < n.tmod 10000 ∧ n.tmod 10000 < 10000 := by
  rcases Int.le_total 0 n with h | h
  · rw [Int.tmod_eq_emod_of_nonneg h]; omega
  · have e : (-n).tmod 10000 = -(n.tmod 10000) := Int.neg_tmod n 10000
    rw [Int.tmod_eq_emod_of_nonneg (by omega)] at e
    omega
theorem number0_AF (n : Int) (h1 : -9999 ≤ n) (h2 : n ≤ 100000000) : Fn 77 [int n] (Tr.av (.mk 0 ((n.tmod 10000 + 10000).tmod 10000) ⟨#[]⟩ [])) := by
  refine AH.toF rfl (post := isV' (Tr.av (.mk 0 ((n.tmod 10000 + 10000).tmod 10000) ⟨#[]⟩ []))) ?_ (fun r hp' h => isV'.fz rfl h)
  have htb := tmod_bnd n
  refine AH.intro Tryz.func77 nm77 rfl rfl rfl fun w0 ok0 own0 => ?_
  refine AWP.seq ?_
  refine AWP.region ?_
  refine AOps.alloc rfl z65 rfl rfl fun b2 => ?_
  refine AOps.nil ?_
  refine AWP.seq ?_
  refine AWP.region ?_
  refine Y (ass rfl) rfl ?_
  refine AOps.nil ?_
  refine AWP.seq ?_
  refine AWP.region ?_
  refine Y (mv rfl) rfl ?_
  refine Y (mv rfl) rfl ?_
  refine Y (bn rfl rfl (BinR.rem (by decide)) rfl) rfl ?_
  refine Y (mv rfl) rfl ?_
  refine Y (bn rfl rfl (BinR.addI (by omega) (by omega)) rfl) rfl ?_
  refine Y (mv rfl) rfl ?_
  refine Y (bn rfl rfl (BinR.rem (by decide)) rfl) rfl ?_
  refine Y (Yields.build pl65 z65 rfl rfl) rfl ?_
  refine AOps.store (j := 0) kd65 rfl rfl rfl rfl rfl rfl ?_
  refine AOps.nil ?_
  refine AWP.leads (Leads.rowWk 0 0 rfl rfl (wk_leafV _ _ _)) ?_
  refine AWP.ret ⟨.inl rfl, ?_⟩
  exact RetH.of (rs := [.cell 2 65]) (vs := [_]) rfl ⟨resOne.cell (j := 0) rfl rfl kd65 rfl rfl rfl, trivial⟩ KeepR.nil (⟨rfl, rfl⟩)
def litK (op : ByteArray) (k : Int) : Int := if op = oPlus then (if k = 2 then 2 else 0) else if op = oMinus ∨ op = oTimes then 0 else 1
def litN (op : ByteArray) (k a b : Int) (s t : ByteArray) : Int :=
  if op = oPlus then (if k = 2 then 0 else (a + b).tmod 10000)
  else if op = oMinus then (a - b + 10000).tmod 10000
  else if op = oTimes then (a * b).tmod 10000
  else if op = oLess then (if a < b then 1 else 0)
  else if a = b ∧ s = t then 1 else 0
def litS (op : ByteArray) (k : Int) (s t : ByteArray) : ByteArray := if op = oPlus ∧ k = 2 then shortB (s ++ t) else ⟨#[]⟩
def litT (op : ByteArray) (k a b : Int) (s t : ByteArray) : Tr := .mk (litK op k) (litN op k a b s t) (litS op k s t) []
theorem same_leaf (k a b : Int) (s t : ByteArray) : sameT (.mk k a s []) (.mk k b t []) = decide (a = b ∧ s = t) := by simp [sameT, sameTs]
theorem lit_same (k a b : Int) (s t : ByteArray) : litT oSame k a b s t = .mk 1 (if a = b ∧ s = t then 1 else 0) ⟨#[]⟩ [] := by simp [litT, litK, litN, litS]
def fiveB (op : ByteArray) : Prop := op = oPlus ∨ op = oMinus ∨ op = oTimes ∨ op = oLess ∨ op = oSame
theorem calc_AH (op : ByteArray) (k x a b : Int) (s t : ByteArray) (hx : x = 0 ∨ x = 2) (hk : x = 2 ↔ k = 2) (ha : 0 ≤ a ∧ a ≤ 9999) (hb : 0 ≤ b ∧ b ≤ 9999) (hs : s.size ≤ 1000000) (ht : t.size ≤ 1000000) (hop : fiveB op) : FnH 70 [] [str op, Tr.av (.mk x a s []), Tr.av (.mk x b t [])] (isV' (Tr.av (litT op k a b s t))) := by
  have hab : 0 ≤ a * b ∧ a * b ≤ 9999 * 9999 := ⟨Int.mul_nonneg ha.1 hb.1, Int.mul_le_mul ha.2 hb.2 hb.1 (by omega)⟩
  refine AH.intro Tryz.func70 nm70 rfl rfl rfl fun w0 ok0 own0 => ?_
  refine AWP.seq ?_
  refine AWP.region ?_
  refine AOps.box rfl rfl rfl rfl fun b4 => ?_
  refine AOps.box rfl rfl rfl rfl fun b5 => ?_
  refine AOps.alloc rfl z65 rfl rfl fun b6 => ?_
  refine AOps.nil ?_
  refine AWP.seq ?_
  refine AWP.region ?_
  refine Y (ass rfl) rfl ?_
  refine AOps.nil ?_
  refine AWP.seq ?_
  refine AWP.seq ?_
  refine AWP.region ?_
  refine Y (mv rfl) rfl ?_
  refine AOps.nil ?_
  refine AWP.block ?_
  refine AWP.seq ?_
  refine AWP.region ?_
  refine Y (bn rfl rfl BinR.seql rfl) rfl ?_
  refine Y (ass rfl) rfl ?_
  refine AOps.nil ?_
  refine AWP.condT rfl (fun c1 => ?_) (fun c1 => ?_)
  ·
   replace c1 := of_decide_eq_true c1
   refine AWP.seq ?_
   refine AWP.seq ?_
   refine AWP.region ?_
   refine Y (Yields.fieldAddr_ptr fo65_0 rfl) rfl ?_
   refine Y (Yields.load_ptr_field (j := 2) kd3 rfl rfl rfl rfl rfl rfl rfl) rfl ?_
   refine Y (bn rfl rfl BinR.eql rfl) rfl ?_
   refine AOps.nil ?_
   refine AWP.condT rfl (fun c2 => ?_) (fun c2 => ?_)
   ·
    replace c2 := eq_of_beq c2
    refine AWP.seq ?_
    refine AWP.region ?_
    refine Y (Yields.fieldAddr_ptr fo65_2 rfl) rfl ?_
    refine Y (Yields.load_ptr_field (j := 2) kd9 rfl rfl rfl rfl rfl rfl rfl) rfl ?_
    refine Y (Yields.fieldAddr_ptr fo65_2 rfl) rfl ?_
    refine Y (Yields.load_ptr_field (j := 1) kd9 rfl rfl rfl rfl rfl rfl rfl) rfl ?_
    refine Y (bn rfl rfl (BinR.sadd (by omega)) rfl) rfl ?_
    refine Y (ass rfl) rfl ?_
    refine AOps.nil ?_
    refine AWP.seq ?_
    refine AWP.region ?_
    refine Y (mv rfl) rfl ?_
    refine Y (mv rfl) rfl ?_
    refine Y (Yields.len_str Tryz.underlying9 rfl) rfl ?_
    refine Y (Yields.min2 rfl rfl) rfl ?_
    refine Y (Yields.slice_str Tryz.underlying9 rfl (l := 0) (u := min (s ++ t).size 20) rfl ⟨.i64, by show some (AV.val (Value.int .i64 _)) = _; congr 3; rw [ByteArray.size_append]; push_cast; omega⟩ (by omega) (by omega)) rfl ?_
    refine Y (Yields.build pl65 z65 rfl rfl) rfl ?_
    refine AOps.store (j := 0) kd65 rfl rfl rfl rfl rfl rfl ?_
    refine AOps.nil ?_
    refine AWP.leads (Leads.rowWk 0 0 rfl rfl (wk_leafV _ _ _)) ?_
    have hk2 : k = 2 := hk.1 c2
    refine AWP.ret ⟨.inl rfl, ?_⟩
    exact RetH.of (rs := [.cell 6 65]) (vs := [_]) rfl ⟨resOne.cell (j := 0) rfl rfl kd65 rfl rfl rfl, trivial⟩ KeepR.nil (⟨by subst c1; subst hk2; rfl, rfl⟩)
   ·
    replace c2 := ne_of_beq_false c2
    refine AWP.skip ?_
    refine AWP.seq ?_
    refine AWP.region ?_
    refine Y (Yields.fieldAddr_ptr fo65_1 rfl) rfl ?_
    refine Y (Yields.load_ptr_field (j := 2) kd3 rfl rfl rfl rfl rfl rfl rfl) rfl ?_
    refine Y (Yields.fieldAddr_ptr fo65_1 rfl) rfl ?_
    refine Y (Yields.load_ptr_field (j := 1) kd3 rfl rfl rfl rfl rfl rfl rfl) rfl ?_
    refine Y (bn rfl rfl (BinR.addI (by omega) (by omega)) rfl) rfl ?_
    refine Y (mv rfl) rfl ?_
    refine Y (bn rfl rfl (BinR.rem (by decide)) rfl) rfl ?_
    refine Y (Yields.build pl65 z65 rfl rfl) rfl ?_
    refine AOps.store (j := 0) kd65 rfl rfl rfl rfl rfl rfl ?_
    refine AOps.nil ?_
    refine AWP.leads (Leads.rowWk 0 0 rfl rfl (wk_leafV _ _ _)) ?_
    have hk2 : ¬ k = 2 := fun e => c2 (hk.2 e)
    refine AWP.ret ⟨.inl rfl, ?_⟩
    exact RetH.of (rs := [.cell 6 65]) (vs := [_]) rfl ⟨resOne.cell (j := 0) rfl rfl kd65 rfl rfl rfl, trivial⟩ KeepR.nil (⟨by subst c1; simp [litT, litK, litN, litS, hk2]; rfl, rfl⟩)
  ·
   replace c1 := of_decide_eq_false c1
   refine AWP.seq ?_
   refine AWP.region ?_
   refine Y (bn rfl rfl BinR.seql rfl) rfl ?_
   refine Y (ass rfl) rfl ?_
   refine AOps.nil ?_
   refine AWP.condT rfl (fun c2 => ?_) (fun c2 => ?_)
   ·
    replace c2 := of_decide_eq_true c2
    refine AWP.seq ?_
    refine AWP.region ?_
    refine Y (Yields.fieldAddr_ptr fo65_1 rfl) rfl ?_
    refine Y (Yields.load_ptr_field (j := 2) kd3 rfl rfl rfl rfl rfl rfl rfl) rfl ?_
    refine Y (Yields.fieldAddr_ptr fo65_1 rfl) rfl ?_
    refine Y (Yields.load_ptr_field (j := 1) kd3 rfl rfl rfl rfl rfl rfl rfl) rfl ?_
    refine Y (bn rfl rfl (BinR.subI (by omega) (by omega)) rfl) rfl ?_
    refine Y (mv rfl) rfl ?_
    refine Y (bn rfl rfl (BinR.addI (by omega) (by omega)) rfl) rfl ?_
    refine Y (mv rfl) rfl ?_
    refine Y (bn rfl rfl (BinR.rem (by decide)) rfl) rfl ?_
    refine Y (Yields.build pl65 z65 rfl rfl) rfl ?_
    refine AOps.store (j := 0) kd65 rfl rfl rfl rfl rfl rfl ?_
    refine AOps.nil ?_
    refine AWP.leads (Leads.rowWk 0 0 rfl rfl (wk_leafV _ _ _)) ?_
    refine AWP.ret ⟨.inl rfl, ?_⟩
    exact RetH.of (rs := [.cell 6 65]) (vs := [_]) rfl ⟨resOne.cell (j := 0) rfl rfl kd65 rfl rfl rfl, trivial⟩ KeepR.nil (⟨by subst c2; rfl, rfl⟩)
   ·
    replace c2 := of_decide_eq_false c2
    refine AWP.seq ?_
    refine AWP.region ?_
    refine Y (bn rfl rfl BinR.seql rfl) rfl ?_
    refine Y (ass rfl) rfl ?_
    refine AOps.nil ?_
    refine AWP.condT rfl (fun c3 => ?_) (fun c3 => ?_)
    ·
     replace c3 := of_decide_eq_true c3
     refine AWP.seq ?_
     refine AWP.region ?_
     refine Y (Yields.fieldAddr_ptr fo65_1 rfl) rfl ?_
     refine Y (Yields.load_ptr_field (j := 2) kd3 rfl rfl rfl rfl rfl rfl rfl) rfl ?_
     refine Y (Yields.fieldAddr_ptr fo65_1 rfl) rfl ?_
     refine Y (Yields.load_ptr_field (j := 1) kd3 rfl rfl rfl rfl rfl rfl rfl) rfl ?_
     refine Y (bn rfl rfl (BinR.mulI (by omega) (by omega)) rfl) rfl ?_
     refine Y (mv rfl) rfl ?_
     refine Y (bn rfl rfl (BinR.rem (by decide)) rfl) rfl ?_
     refine Y (Yields.build pl65 z65 rfl rfl) rfl ?_
     refine AOps.store (j := 0) kd65 rfl rfl rfl rfl rfl rfl ?_
     refine AOps.nil ?_
     refine AWP.leads (Leads.rowWk 0 0 rfl rfl (wk_leafV _ _ _)) ?_
     refine AWP.ret ⟨.inl rfl, ?_⟩
     exact RetH.of (rs := [.cell 6 65]) (vs := [_]) rfl ⟨resOne.cell (j := 0) rfl rfl kd65 rfl rfl rfl, trivial⟩ KeepR.nil (⟨by subst c3; rfl, rfl⟩)
    ·
     replace c3 := of_decide_eq_false c3
     refine AWP.seq ?_
     refine AWP.region ?_
     refine Y (bn rfl rfl BinR.seql rfl) rfl ?_
     refine Y (ass rfl) rfl ?_
     refine AOps.nil ?_
     refine AWP.condT rfl (fun c4 => ?_) (fun c4 => ?_)
     ·
      replace c4 := of_decide_eq_true c4
      refine AWP.seq ?_
      refine AWP.region ?_
      refine Y (Yields.fieldAddr_ptr fo65_1 rfl) rfl ?_
      refine Y (Yields.load_ptr_field (j := 2) kd3 rfl rfl rfl rfl rfl rfl rfl) rfl ?_
      refine Y (Yields.fieldAddr_ptr fo65_1 rfl) rfl ?_
      refine Y (Yields.load_ptr_field (j := 1) kd3 rfl rfl rfl rfl rfl rfl rfl) rfl ?_
      refine Y (bn rfl rfl BinR.lss rfl) rfl ?_
      refine AOps.callro (boolean_AF (decide (a < b))) rfl rfl rfl ?_
      refine AOps.store (j := 0) kd65 rfl rfl rfl rfl rfl rfl ?_
      refine AOps.nil ?_
      refine AWP.ret ⟨.inl rfl, ?_⟩
      exact RetH.of (rs := [.cell 6 65]) (vs := [_]) rfl ⟨resOne.cell (j := 0) rfl rfl kd65 rfl rfl rfl, trivial⟩ KeepR.nil (⟨by subst c4; simp [litT, litK, litN, litS]; rfl, rfl⟩)
     ·
      replace c4 := of_decide_eq_false c4
      refine AWP.seq ?_
      refine AWP.region ?_
      refine Y (bn rfl rfl BinR.seql rfl) rfl ?_
      refine Y (ass rfl) rfl ?_
      refine AOps.nil ?_
      refine AWP.condT rfl (fun c5 => ?_) (fun c5 => ?_)
      ·
       replace c5 := of_decide_eq_true c5
       refine AWP.seq ?_
       refine AWP.region ?_
       refine Y (Yields.load_ptr_agg (j := 2) kd65 rfl rfl rfl rfl) rfl ?_
       refine Y (Yields.load_ptr_agg (j := 1) kd65 rfl rfl rfl rfl) rfl ?_
       refine AOps.callro (isame_AFValue (.mk x a s []) (.mk x b t []) ⟨hs, by simp, trivial⟩) rfl rfl rfl ?_
       refine AOps.callro (boolean_AF (sameT (.mk x a s []) (.mk x b t []))) rfl rfl rfl ?_
       refine AOps.store (j := 0) kd65 rfl rfl rfl rfl rfl rfl ?_
       refine AOps.nil ?_
       refine AWP.ret ⟨.inl rfl, ?_⟩
       exact RetH.of (rs := [.cell 6 65]) (vs := [_]) rfl ⟨resOne.cell (j := 0) rfl rfl kd65 rfl rfl rfl, trivial⟩ KeepR.nil (⟨by subst c5; simp [litT, litK, litN, litS, sameT, sameTs]; rfl, rfl⟩)
      ·
       replace c5 := of_decide_eq_false c5
       refine absurd hop ?_
       rintro (h | h | h | h | h)
       all_goals first | exact c1 h | exact c2 h | exact c3 h | exact c4 h | exact c5 h
theorem calc_AF (op : ByteArray) (k x a b : Int) (s t : ByteArray) (hx : x = 0 ∨ x = 2) (hk : x = 2 ↔ k = 2) (ha : 0 ≤ a ∧ a ≤ 9999) (hb : 0 ≤ b ∧ b ≤ 9999) (hs : s.size ≤ 1000000) (ht : t.size ≤ 1000000) (hop : fiveB op) : Fn 70 [str op, Tr.av (.mk x a s []), Tr.av (.mk x b t [])] (Tr.av (litT op k a b s t)) :=
  AH.toF rfl (calc_AH op k x a b s t hx hk ha hb hs ht hop) (fun r hp' h => isV'.fz rfl h)
theorem mod_minus {a b : Int} (ha : 0 ≤ a ∧ a ≤ 9999) (hb : 0 ≤ b ∧ b ≤ 9999) : (((a - b).tmod 10000 + 10000).tmod 10000) = (a - b + 10000).tmod 10000 := by
  have : (a - b).tmod 10000 = a - b := by
    rcases Int.le_total 0 (a - b) with h | h
    · rw [Int.tmod_eq_emod_of_nonneg h]; omega
    · have e : (-(a - b)).tmod 10000 = -((a - b).tmod 10000) := Int.neg_tmod _ _
      rw [Int.tmod_eq_emod_of_nonneg (by omega)] at e
      omega
  rw [this]
theorem mod_plus {n : Int} (h : 0 ≤ n) : ((n.tmod 10000 + 10000).tmod 10000) = n.tmod 10000 := by
  rw [Int.tmod_eq_emod_of_nonneg h, Int.tmod_eq_emod_of_nonneg (by omega)]
  omega
theorem operate_AH (op : ByteArray) (k a b : Int) (s t : ByteArray) (hk : k = 0 ∨ k = 1 ∧ op = oSame ∨ k = 2 ∧ (op = oPlus ∨ op = oSame)) (ha : 0 ≤ a ∧ a ≤ 9999) (hb : 0 ≤ b ∧ b ≤ 9999) (hs : s.size ≤ 1000000) (ht : t.size ≤ 1000000) (hop : fiveB op) : FnH 56 [] [str op, Tr.av (.mk k a s []), Tr.av (.mk k b t [])] (isV' (Tr.av (litT op k a b s t))) := by
  have hab : 0 ≤ a * b ∧ a * b ≤ 9999 * 9999 := ⟨Int.mul_nonneg ha.1 hb.1, Int.mul_le_mul ha.2 hb.2 hb.1 (by omega)⟩
  have m1 := mod_minus ha hb
  have m2 := mod_plus (n := a + b) (by omega)
  have m3 := mod_plus (n := a * b) (by omega)
  refine AH.intro Tryz.func56 nm56 rfl rfl rfl fun w0 ok0 own0 => ?_
  refine AWP.seq ?_
  refine AWP.region ?_
  refine AOps.box rfl rfl rfl rfl fun b4 => ?_
  refine AOps.box rfl rfl rfl rfl fun b5 => ?_
  refine AOps.alloc rfl z65 rfl rfl fun b6 => ?_
  refine AOps.nil ?_
  refine AWP.seq ?_
  refine AWP.seq ?_
  refine AWP.region ?_
  refine Y (mv rfl) rfl ?_
  refine AOps.nil ?_
  refine AWP.block ?_
  refine AWP.seq ?_
  refine AWP.region ?_
  refine Y (bn rfl rfl BinR.seql rfl) rfl ?_
  refine Y (ass rfl) rfl ?_
  refine AOps.nil ?_
  refine AWP.condT rfl (fun c1 => ?_) (fun c1 => ?_)
  · replace c1 := of_decide_eq_true c1
    refine AWP.seq ?_
    refine AWP.seq ?_
    refine AWP.region ?_
    refine Y (Yields.fieldAddr_ptr fo65_0 rfl) rfl ?_
    refine Y (Yields.load_ptr_field (j := 2) kd3 rfl rfl rfl rfl rfl rfl rfl) rfl ?_
    refine Y (bn rfl rfl BinR.eql rfl) rfl ?_
    refine AOps.nil ?_
    refine AWP.condT rfl (fun c2 => ?_) (fun c2 => ?_)
    · replace c2 := eq_of_beq c2
      refine AWP.seq ?_
      refine AWP.region ?_
      refine Y (Yields.fieldAddr_ptr fo65_2 rfl) rfl ?_
      refine Y (Yields.load_ptr_field (j := 2) kd9 rfl rfl rfl rfl rfl rfl rfl) rfl ?_
      refine Y (Yields.fieldAddr_ptr fo65_2 rfl) rfl ?_
      refine Y (Yields.load_ptr_field (j := 1) kd9 rfl rfl rfl rfl rfl rfl rfl) rfl ?_
      refine Y (bn rfl rfl (BinR.sadd (by omega)) rfl) rfl ?_
      refine AOps.callro (short_AF (s ++ t) (by rw [ByteArray.size_append]; omega)) rfl rfl rfl ?_
      refine Y (Yields.build pl65 z65 rfl rfl) rfl ?_
      refine AOps.store (j := 0) kd65 rfl rfl rfl rfl rfl rfl ?_
      refine AOps.nil ?_
      refine AWP.leads (Leads.rowWk 0 0 rfl rfl (wk_leafV _ _ _)) ?_
      refine AWP.ret ⟨.inl rfl, ?_⟩
      exact RetH.of (rs := [.cell 6 65]) (vs := [_]) rfl ⟨resOne.cell (j := 0) rfl rfl kd65 rfl rfl rfl, trivial⟩ KeepR.nil (⟨by subst c1; subst c2; rfl, rfl⟩)
    · replace c2 := ne_of_beq_false c2
      refine AWP.skip ?_
      refine AWP.seq ?_
      refine AWP.region ?_
      refine Y (Yields.fieldAddr_ptr fo65_1 rfl) rfl ?_
      refine Y (Yields.load_ptr_field (j := 2) kd3 rfl rfl rfl rfl rfl rfl rfl) rfl ?_
      refine Y (Yields.fieldAddr_ptr fo65_1 rfl) rfl ?_
      refine Y (Yields.load_ptr_field (j := 1) kd3 rfl rfl rfl rfl rfl rfl rfl) rfl ?_
      refine Y (bn rfl rfl (BinR.addI (by omega) (by omega)) rfl) rfl ?_
      refine AOps.callro (number0_AF (a + b) (by omega) (by omega)) rfl rfl rfl ?_
      refine AOps.store (j := 0) kd65 rfl rfl rfl rfl rfl rfl ?_
      refine AOps.nil ?_
      refine AWP.ret ⟨.inl rfl, ?_⟩
      exact RetH.of (rs := [.cell 6 65]) (vs := [_]) rfl ⟨resOne.cell (j := 0) rfl rfl kd65 rfl rfl rfl, trivial⟩ KeepR.nil (⟨by subst c1; rw [m2, show litT oPlus k a b s t = .mk 0 ((a + b).tmod 10000) ⟨#[]⟩ [] by simp [litT, litK, litN, litS, c2]]; rfl, rfl⟩)
  · replace c1 := of_decide_eq_false c1
    refine AWP.seq ?_
    refine AWP.region ?_
    refine Y (bn rfl rfl BinR.seql rfl) rfl ?_
    refine Y (ass rfl) rfl ?_
    refine AOps.nil ?_
    refine AWP.condT rfl (fun c2 => ?_) (fun c2 => ?_)
    · replace c2 := of_decide_eq_true c2
      refine AWP.seq ?_
      refine AWP.region ?_
      refine Y (Yields.fieldAddr_ptr fo65_1 rfl) rfl ?_
      refine Y (Yields.load_ptr_field (j := 2) kd3 rfl rfl rfl rfl rfl rfl rfl) rfl ?_
      refine Y (Yields.fieldAddr_ptr fo65_1 rfl) rfl ?_
      refine Y (Yields.load_ptr_field (j := 1) kd3 rfl rfl rfl rfl rfl rfl rfl) rfl ?_
      refine Y (bn rfl rfl (BinR.subI (by omega) (by omega)) rfl) rfl ?_
      refine AOps.callro (number0_AF (a - b) (by omega) (by omega)) rfl rfl rfl ?_
      refine AOps.store (j := 0) kd65 rfl rfl rfl rfl rfl rfl ?_
      refine AOps.nil ?_
      refine AWP.ret ⟨.inl rfl, ?_⟩
      exact RetH.of (rs := [.cell 6 65]) (vs := [_]) rfl ⟨resOne.cell (j := 0) rfl rfl kd65 rfl rfl rfl, trivial⟩ KeepR.nil (⟨by subst c2; rw [m1]; rfl, rfl⟩)
    · replace c2 := of_decide_eq_false c2
      refine AWP.seq ?_
      refine AWP.region ?_
      refine Y (bn rfl rfl BinR.seql rfl) rfl ?_
      refine Y (ass rfl) rfl ?_
      refine AOps.nil ?_
      refine AWP.condT rfl (fun c3 => ?_) (fun c3 => ?_)
      · replace c3 := of_decide_eq_true c3
        refine AWP.seq ?_
        refine AWP.region ?_
        refine Y (Yields.fieldAddr_ptr fo65_1 rfl) rfl ?_
        refine Y (Yields.load_ptr_field (j := 2) kd3 rfl rfl rfl rfl rfl rfl rfl) rfl ?_
        refine Y (Yields.fieldAddr_ptr fo65_1 rfl) rfl ?_
        refine Y (Yields.load_ptr_field (j := 1) kd3 rfl rfl rfl rfl rfl rfl rfl) rfl ?_
        refine Y (bn rfl rfl (BinR.mulI (by omega) (by omega)) rfl) rfl ?_
        refine AOps.callro (number0_AF (a * b) (by omega) (by omega)) rfl rfl rfl ?_
        refine AOps.store (j := 0) kd65 rfl rfl rfl rfl rfl rfl ?_
        refine AOps.nil ?_
        refine AWP.ret ⟨.inl rfl, ?_⟩
        exact RetH.of (rs := [.cell 6 65]) (vs := [_]) rfl ⟨resOne.cell (j := 0) rfl rfl kd65 rfl rfl rfl, trivial⟩ KeepR.nil (⟨by subst c3; rw [m3]; rfl, rfl⟩)
      · replace c3 := of_decide_eq_false c3
        refine AWP.seq ?_
        refine AWP.region ?_
        refine Y (bn rfl rfl BinR.seql rfl) rfl ?_
        refine Y (ass rfl) rfl ?_
        refine AOps.nil ?_
        refine AWP.condT rfl (fun c4 => ?_) (fun c4 => ?_)
        · replace c4 := of_decide_eq_true c4
          refine AWP.seq ?_
          refine AWP.region ?_
          refine Y (Yields.fieldAddr_ptr fo65_1 rfl) rfl ?_
          refine Y (Yields.load_ptr_field (j := 2) kd3 rfl rfl rfl rfl rfl rfl rfl) rfl ?_
          refine Y (Yields.fieldAddr_ptr fo65_1 rfl) rfl ?_
          refine Y (Yields.load_ptr_field (j := 1) kd3 rfl rfl rfl rfl rfl rfl rfl) rfl ?_
          refine Y (bn rfl rfl BinR.lss rfl) rfl ?_
          refine AOps.callro (struth_AF (decide (a < b))) rfl rfl rfl ?_
          refine AOps.store (j := 0) kd65 rfl rfl rfl rfl rfl rfl ?_
          refine AOps.nil ?_
          refine AWP.ret ⟨.inl rfl, ?_⟩
          exact RetH.of (rs := [.cell 6 65]) (vs := [_]) rfl ⟨resOne.cell (j := 0) rfl rfl kd65 rfl rfl rfl, trivial⟩ KeepR.nil (⟨by subst c4; simp [litT, litK, litN, litS]; rfl, rfl⟩)
        · replace c4 := of_decide_eq_false c4
          have c5 : op = oSame := by
             rcases hop with h | h | h | h | h
             · exact absurd h c1
             · exact absurd h c2
             · exact absurd h c3
             · exact absurd h c4
             · exact h
          refine AWP.skip ?_
          refine AWP.seq ?_
          refine AWP.region ?_
          refine Y (Yields.load_ptr_agg (j := 2) kd65 rfl rfl rfl rfl) rfl ?_
          refine Y (Yields.load_ptr_agg (j := 1) kd65 rfl rfl rfl rfl) rfl ?_
          refine AOps.callro (ssame_AFValue (.mk k a s []) (.mk k b t []) ⟨hs, by simp, trivial⟩) rfl rfl rfl ?_
          refine AOps.callro (struth_AF (sameT (.mk k a s []) (.mk k b t []))) rfl rfl rfl ?_
          refine AOps.store (j := 0) kd65 rfl rfl rfl rfl rfl rfl ?_
          refine AOps.nil ?_
          refine AWP.ret ⟨.inl rfl, ?_⟩
          exact RetH.of (rs := [.cell 6 65]) (vs := [_]) rfl ⟨resOne.cell (j := 0) rfl rfl kd65 rfl rfl rfl, trivial⟩ KeepR.nil (⟨by subst c5; rw [same_leaf, lit_same]; simp only [decide_eq_true_eq]; rfl, rfl⟩)
theorem operate_AF (op : ByteArray) (k a b : Int) (s t : ByteArray) (hk : k = 0 ∨ k = 1 ∧ op = oSame ∨ k = 2 ∧ (op = oPlus ∨ op = oSame)) (ha : 0 ≤ a ∧ a ≤ 9999) (hb : 0 ≤ b ∧ b ≤ 9999) (hs : s.size ≤ 1000000) (ht : t.size ≤ 1000000) (hop : fiveB op) : Fn 56 [str op, Tr.av (.mk k a s []), Tr.av (.mk k b t [])] (Tr.av (litT op k a b s t)) :=
  AH.toF rfl (operate_AH op k a b s t hk ha hb hs ht hop) (fun r hp' h => isV'.fz rfl h)
def okLit (k n : Int) (t : ByteArray) : Prop := (k = 0 → t = ⟨#[]⟩) ∧ (k = 1 → (n = 0 ∨ n = 1) ∧ t = ⟨#[]⟩) ∧ (k = 2 → n = 0) ∧ 0 ≤ n ∧ n ≤ 9999 ∧ t.size ≤ 1000000 ∧ 0 ≤ k
theorem valueOf_AF (k n : Int) (t : ByteArray) (ks : List Tr) (h : okLit k n t) (h2 : k ≤ 2) : Fn 57 [Tr.av (.mk k n t ks)] (Tr.av (.mk k n t [])) := by
  refine AH.toF (by simp [plainL, Tr.plain_av]) (post := isV' (Tr.av (.mk k n t []))) ?_ (fun r hp' h => isV'.fz rfl h)
  obtain ⟨o1, o2, o3, o4, o5, o6, o7⟩ := h
  refine AH.intro Tryz.func57 nm57 rfl rfl rfl fun w0 ok0 own0 => ?_
  refine AWP.seq ?_
  refine AWP.region ?_
  refine AOps.box rfl rfl rfl rfl fun b1 => ?_
  refine AOps.alloc rfl z65 rfl rfl fun b2 => ?_
  refine AOps.nil ?_
  refine AWP.seq ?_
  refine AWP.seq ?_
  refine AWP.region ?_
  refine Y (Yields.fieldAddr_ptr fo28_0 rfl) rfl ?_
  refine Y (Yields.load_ptr_field (j := 1) kd3 rfl rfl rfl rfl rfl rfl rfl) rfl ?_
  refine AOps.nil ?_
  refine AWP.block ?_
  refine AWP.seq ?_
  refine AWP.region ?_
  refine Y (bn rfl rfl BinR.eql rfl) rfl ?_
  refine Y (ass rfl) rfl ?_
  refine AOps.nil ?_
  refine AWP.condT rfl (fun c0 => ?_) (fun c0 => ?_)
  ·
   replace c0 := eq_of_beq c0
   refine AWP.seq ?_
   refine AWP.region ?_
   refine Y (Yields.fieldAddr_ptr fo28_1 rfl) rfl ?_
   refine Y (Yields.load_ptr_field (j := 1) kd3 rfl rfl rfl rfl rfl rfl rfl) rfl ?_
   refine Y (Yields.build pl65 z65 rfl rfl) rfl ?_
   refine AOps.store (j := 0) kd65 rfl rfl rfl rfl rfl rfl ?_
   refine AOps.nil ?_
   refine AWP.leads (Leads.rowWk 0 0 rfl rfl (wk_leafV _ _ _)) ?_
   refine AWP.ret ⟨.inl rfl, ?_⟩
   exact RetH.of (rs := [.cell 2 65]) (vs := [_]) rfl ⟨resOne.cell (j := 0) rfl rfl kd65 rfl rfl rfl, trivial⟩ KeepR.nil (⟨by rw [o1 c0, c0]; rfl, rfl⟩)
  ·
   replace c0 := ne_of_beq_false c0
   refine AWP.seq ?_
   refine AWP.region ?_
   refine Y (bn rfl rfl BinR.eql rfl) rfl ?_
   refine Y (ass rfl) rfl ?_
   refine AOps.nil ?_
   refine AWP.condT rfl (fun c1 => ?_) (fun c1 => ?_)
   ·
    replace c1 := eq_of_beq c1
    refine AWP.seq ?_
    refine AWP.region ?_
    refine Y (Yields.fieldAddr_ptr fo28_1 rfl) rfl ?_
    refine Y (Yields.load_ptr_field (j := 1) kd3 rfl rfl rfl rfl rfl rfl rfl) rfl ?_
    refine Y (Yields.build pl65 z65 rfl rfl) rfl ?_
    refine AOps.store (j := 0) kd65 rfl rfl rfl rfl rfl rfl ?_
    refine AOps.nil ?_
    refine AWP.leads (Leads.rowWk 0 0 rfl rfl (wk_leafV _ _ _)) ?_
    refine AWP.ret ⟨.inl rfl, ?_⟩
    exact RetH.of (rs := [.cell 2 65]) (vs := [_]) rfl ⟨resOne.cell (j := 0) rfl rfl kd65 rfl rfl rfl, trivial⟩ KeepR.nil (⟨by rw [(o2 c1).2, c1]; rfl, rfl⟩)
   ·
    replace c1 := ne_of_beq_false c1
    refine AWP.skip ?_
    refine AWP.seq ?_
    refine AWP.region ?_
    refine Y (Yields.fieldAddr_ptr fo28_2 rfl) rfl ?_
    refine Y (Yields.load_ptr_field (j := 1) kd9 rfl rfl rfl rfl rfl rfl rfl) rfl ?_
    refine Y (Yields.build pl65 z65 rfl rfl) rfl ?_
    refine AOps.store (j := 0) kd65 rfl rfl rfl rfl rfl rfl ?_
    refine AOps.nil ?_
    refine AWP.leads (Leads.rowWk 0 0 rfl rfl (wk_leafV _ _ _)) ?_
    have e2 : k = 2 := by omega
    refine AWP.ret ⟨.inl rfl, ?_⟩
    exact RetH.of (rs := [.cell 2 65]) (vs := [_]) rfl ⟨resOne.cell (j := 0) rfl rfl kd65 rfl rfl rfl, trivial⟩ KeepR.nil (⟨by rw [o3 e2, e2]; rfl, rfl⟩)
theorem literal_AF (k n : Int) (t : ByteArray) (h : (k = 0 ∨ k = 1) ∧ t = ⟨#[]⟩ ∨ k = 2 ∧ n = 0) : Fn 55 [Tr.av (.mk k n t [])] (Tr.av (.mk k n t [])) := by
  refine AH.toF rfl (post := isV' (Tr.av (.mk k n t []))) ?_ (fun r hp' h => isV'.fz rfl h)
  refine AH.intro Tryz.func55 nm55 rfl rfl rfl fun w0 ok0 own0 => ?_
  refine AWP.seq ?_
  refine AWP.region ?_
  refine AOps.box rfl rfl rfl rfl fun b1 => ?_
  refine AOps.alloc rfl z28 rfl rfl fun b2 => ?_
  refine AOps.nil ?_
  refine AWP.seq ?_
  refine AWP.seq ?_
  refine AWP.region ?_
  refine Y (Yields.fieldAddr_ptr fo65_0 rfl) rfl ?_
  refine Y (Yields.load_ptr_field (j := 1) kd3 rfl rfl rfl rfl rfl rfl rfl) rfl ?_
  refine AOps.nil ?_
  refine AWP.block ?_
  refine AWP.seq ?_
  refine AWP.region ?_
  refine Y (bn rfl rfl BinR.eql rfl) rfl ?_
  refine Y (ass rfl) rfl ?_
  refine AOps.nil ?_
  refine AWP.condT rfl (fun c0 => ?_) (fun c0 => ?_)
  ·
   replace c0 := eq_of_beq c0
   refine AWP.seq ?_
   refine AWP.region ?_
   refine Y (Yields.fieldAddr_ptr fo65_1 rfl) rfl ?_
   refine Y (Yields.load_ptr_field (j := 1) kd3 rfl rfl rfl rfl rfl rfl rfl) rfl ?_
   refine Y (Yields.build pl28 z28 rfl rfl) rfl ?_
   refine AOps.store (j := 0) kd28 rfl rfl rfl rfl rfl rfl ?_
   refine AOps.nil ?_
   refine AWP.leads (Leads.rowWk 0 0 rfl rfl (wk_leafV _ _ _)) ?_
   refine AWP.ret ⟨.inl rfl, ?_⟩
   exact RetH.of (rs := [.cell 2 28]) (vs := [_]) rfl ⟨resOne.cell (j := 0) rfl rfl kd28 rfl rfl rfl, trivial⟩ KeepR.nil (⟨by rcases h with h | h; rw [h.2, c0]; rfl; omega, rfl⟩)
  ·
   replace c0 := ne_of_beq_false c0
   refine AWP.seq ?_
   refine AWP.region ?_
   refine Y (bn rfl rfl BinR.eql rfl) rfl ?_
   refine Y (ass rfl) rfl ?_
   refine AOps.nil ?_
   refine AWP.condT rfl (fun c1 => ?_) (fun c1 => ?_)
   ·
    replace c1 := eq_of_beq c1
    refine AWP.seq ?_
    refine AWP.region ?_
    refine Y (Yields.fieldAddr_ptr fo65_1 rfl) rfl ?_
    refine Y (Yields.load_ptr_field (j := 1) kd3 rfl rfl rfl rfl rfl rfl rfl) rfl ?_
    refine Y (Yields.build pl28 z28 rfl rfl) rfl ?_
    refine AOps.store (j := 0) kd28 rfl rfl rfl rfl rfl rfl ?_
    refine AOps.nil ?_
    refine AWP.leads (Leads.rowWk 0 0 rfl rfl (wk_leafV _ _ _)) ?_
    refine AWP.ret ⟨.inl rfl, ?_⟩
    exact RetH.of (rs := [.cell 2 28]) (vs := [_]) rfl ⟨resOne.cell (j := 0) rfl rfl kd28 rfl rfl rfl, trivial⟩ KeepR.nil (⟨by rcases h with h | h; rw [h.2, c1]; rfl; omega, rfl⟩)
   ·
    replace c1 := ne_of_beq_false c1
    refine AWP.skip ?_
    refine AWP.seq ?_
    refine AWP.region ?_
    refine Y (Yields.fieldAddr_ptr fo65_2 rfl) rfl ?_
    refine Y (Yields.load_ptr_field (j := 1) kd9 rfl rfl rfl rfl rfl rfl rfl) rfl ?_
    refine Y (Yields.build pl28 z28 rfl rfl) rfl ?_
    refine AOps.store (j := 0) kd28 rfl rfl rfl rfl rfl rfl ?_
    refine AOps.nil ?_
    refine AWP.leads (Leads.rowWk 0 0 rfl rfl (wk_leafV _ _ _)) ?_
    refine AWP.ret ⟨.inl rfl, ?_⟩
    exact RetH.of (rs := [.cell 2 28]) (vs := [_]) rfl ⟨resOne.cell (j := 0) rfl rfl kd28 rfl rfl rfl, trivial⟩ KeepR.nil (⟨by rcases h with h | h; omega; rw [h.1, h.2]; rfl, rfl⟩)
theorem isLiteral_AF (k n : Int) (t : ByteArray) (ks : List Tr) (h : 0 ≤ k) : Fn 53 [Tr.av (.mk k n t ks)] (bool (decide (k ≤ 2))) := by
  refine AF.intro Tryz.func53 nm53 rfl rfl rfl rfl fun w0 ok0 => ?_
  refine AWP.seq ?_
  refine AWP.region ?_
  refine AOps.box rfl rfl rfl rfl fun b1 => ?_
  refine Y (ass rfl) rfl ?_
  refine AOps.nil ?_
  refine AWP.seq ?_
  refine AWP.region ?_
  refine Y (Yields.fieldAddr_ptr fo28_0 rfl) rfl ?_
  refine Y (Yields.load_ptr_field (j := 0) kd3 rfl rfl rfl rfl rfl rfl rfl) rfl ?_
  refine Y (bn rfl rfl BinR.eql rfl) rfl ?_
  refine Y (mv rfl) rfl ?_
  refine AOps.split 6 rfl (fun g0 => ?_) (fun g0 => ?_)
  ·
   replace g0 := eq_of_beq g0
   refine AOps.off' rfl rfl rfl rfl ?_
   refine AOps.off' rfl rfl rfl rfl ?_
   refine AOps.off' rfl rfl rfl rfl ?_
   refine Y (Yields.pick_true rfl rfl) rfl ?_
   refine Y (mv rfl) rfl ?_
   refine AOps.off' rfl rfl rfl rfl ?_
   refine AOps.off' rfl rfl rfl rfl ?_
   refine AOps.off' rfl rfl rfl rfl ?_
   refine Y (Yields.pick_true rfl rfl) rfl ?_
   refine Y (ass rfl) rfl ?_
   refine AOps.nil ?_
   refine AWP.ret ⟨.inl rfl, ?_⟩
   exact RetIs.oneV rfl rfl (by (rw [decide_eq_true (by omega)]) <;> rfl)
  ·
   replace g0 := ne_of_beq_false g0
   refine AOps.on rfl rfl ?_
   refine Y (Yields.fieldAddr_ptr fo28_0 rfl) rfl ?_
   refine AOps.on rfl rfl ?_
   refine Y (Yields.load_ptr_field (j := 0) kd3 rfl rfl rfl rfl rfl rfl rfl) rfl ?_
   refine AOps.on rfl rfl ?_
   refine Y (bn rfl rfl BinR.eql rfl) rfl ?_
   refine Y (Yields.pick_false rfl rfl) rfl ?_
   refine Y (mv rfl) rfl ?_
   refine AOps.split 11 rfl (fun g1 => ?_) (fun g1 => ?_)
   ·
    replace g1 := eq_of_beq g1
    refine AOps.off' rfl rfl rfl rfl ?_
    refine AOps.off' rfl rfl rfl rfl ?_
    refine AOps.off' rfl rfl rfl rfl ?_
    refine Y (Yields.pick_true rfl rfl) rfl ?_
    refine Y (ass rfl) rfl ?_
    refine AOps.nil ?_
    refine AWP.ret ⟨.inl rfl, ?_⟩
    exact RetIs.oneV rfl rfl (by (rw [decide_eq_true (by omega)]) <;> rfl)
   ·
    replace g1 := ne_of_beq_false g1
    refine AOps.on rfl rfl ?_
    refine Y (Yields.fieldAddr_ptr fo28_0 rfl) rfl ?_
    refine AOps.on rfl rfl ?_
    refine Y (Yields.load_ptr_field (j := 0) kd3 rfl rfl rfl rfl rfl rfl rfl) rfl ?_
    refine AOps.on rfl rfl ?_
    refine Y (bn rfl rfl BinR.eql rfl) rfl ?_
    refine Y (Yields.pick_false rfl rfl) rfl ?_
    refine Y (ass rfl) rfl ?_
    refine AOps.nil ?_
    refine AWP.ret ⟨.inl rfl, ?_⟩
    exact RetIs.oneV rfl rfl (by (rw [show (k == 2) = decide (k ≤ 2) from by rw [Bool.eq_iff_iff]; simp; omega]) <;> rfl)
def knownB (op : ByteArray) (k : Int) : Bool := decide (op = oSame) || ((decide (op = oPlus) && decide (k ≠ 1)) || ((decide (op = oMinus) || (decide (op = oTimes) || decide (op = oLess))) && decide (k = 0)))
theorem known_AF (op : ByteArray) (k : Int) : Fn 54 [str op, int k] (bool (knownB op k)) := by
  refine AF.intro Tryz.func54 nm54 rfl rfl rfl rfl fun w0 ok0 => ?_
  refine AWP.seq ?_
  refine AWP.region ?_
  refine Y (ass rfl) rfl ?_
  refine AOps.nil ?_
  refine AWP.seq ?_
  refine AWP.seq ?_
  refine AWP.region ?_
  refine Y (mv rfl) rfl ?_
  refine AOps.nil ?_
  refine AWP.block ?_
  refine AWP.seq ?_
  refine AWP.region ?_
  refine Y (bn rfl rfl BinR.seql rfl) rfl ?_
  refine Y (ass rfl) rfl ?_
  refine AOps.nil ?_
  refine AWP.condT rfl (fun c0 => ?_) (fun c0 => ?_)
  ·
   replace c0 := of_decide_eq_true c0
   refine AWP.seq ?_
   refine AWP.region ?_
   refine Y (ass rfl) rfl ?_
   refine AOps.nil ?_
   refine AWP.ret ⟨.inl rfl, ?_⟩
   exact RetIs.oneV rfl rfl (by (rw [knownB, decide_eq_true c0]; rfl) <;> rfl)
  ·
   replace c0 := of_decide_eq_false c0
   refine AWP.seq ?_
   refine AWP.region ?_
   refine Y (bn rfl rfl BinR.seql rfl) rfl ?_
   refine Y (ass rfl) rfl ?_
   refine AOps.nil ?_
   refine AWP.condT rfl (fun c1 => ?_) (fun c1 => ?_)
   ·
    replace c1 := of_decide_eq_true c1
    refine AWP.seq ?_
    refine AWP.region ?_
    refine Y (mv rfl) rfl ?_
    refine Y (bn rfl rfl BinR.neq rfl) rfl ?_
    refine Y (ass rfl) rfl ?_
    refine AOps.nil ?_
    refine AWP.ret ⟨.inl rfl, ?_⟩
    exact RetIs.oneV rfl rfl (by (rw [knownB, decide_eq_false c0, decide_eq_true c1]; subst c1; simp; rfl) <;> rfl)
   ·
    replace c1 := of_decide_eq_false c1
    refine AWP.midE (α := Bool) (fun c : Bool => ⟨[(1, int k), (12, bool c)], []⟩) (fun c : Bool => c = (decide (op = oMinus) || (decide (op = oTimes) || decide (op = oLess)))) ?_ ?_
    ·
     skip
     refine AWP.seq ?_
     refine AWP.region ?_
     refine Y (bn rfl rfl BinR.seql rfl) rfl ?_
     refine Y (ass rfl) rfl ?_
     refine AOps.nil ?_
     refine AWP.condT rfl (fun c2 => ?_) (fun c2 => ?_)
     ·
      replace c2 := of_decide_eq_true c2
      refine AWP.skip ?_
      refine ⟨true, ?_, ?_⟩
      ·
       show true = (decide (op = oMinus) || (decide (op = oTimes) || decide (op = oLess)))
       simp [c2]
      · exact Leads.keepR KeepR.nil ⟨rfl, rfl, trivial⟩
     ·
      replace c2 := of_decide_eq_false c2
      refine AWP.seq ?_
      refine AWP.region ?_
      refine Y (bn rfl rfl BinR.seql rfl) rfl ?_
      refine Y (ass rfl) rfl ?_
      refine AOps.nil ?_
      refine AWP.condT rfl (fun c3 => ?_) (fun c3 => ?_)
      ·
       replace c3 := of_decide_eq_true c3
       refine AWP.skip ?_
       refine ⟨true, ?_, ?_⟩
       ·
        show true = (decide (op = oMinus) || (decide (op = oTimes) || decide (op = oLess)))
        simp [c3]
       · exact Leads.keepR KeepR.nil ⟨rfl, rfl, trivial⟩
      ·
       replace c3 := of_decide_eq_false c3
       refine AWP.region ?_
       refine Y (bn rfl rfl BinR.seql rfl) rfl ?_
       refine Y (ass rfl) rfl ?_
       refine AOps.nil ?_
       refine ⟨decide (op = oLess), ?_, ?_⟩
       ·
        show (decide (op = oLess)) = (decide (op = oMinus) || (decide (op = oTimes) || decide (op = oLess)))
        simp [c2, c3]
       · exact Leads.keepR KeepR.nil ⟨rfl, rfl, trivial⟩
    ·
     rintro c hinv
     refine AWP.condT rfl (fun c4 => ?_) (fun c4 => ?_)
     ·
      skip
      refine AWP.seq ?_
      refine AWP.region ?_
      rw [c4] at hinv
      refine Y (mv rfl) rfl ?_
      refine Y (bn rfl rfl BinR.eql rfl) rfl ?_
      refine Y (ass rfl) rfl ?_
      refine AOps.nil ?_
      refine AWP.ret ⟨.inl rfl, ?_⟩
      exact RetIs.oneV rfl rfl (by (rw [knownB, decide_eq_false c0, decide_eq_false c1, ← hinv]; simp; rfl) <;> rfl)
     ·
      skip
      rw [c4] at hinv
      refine AWP.skip ?_
      refine AWP.seq ?_
      refine AWP.region ?_
      refine Y (ass rfl) rfl ?_
      refine AOps.nil ?_
      refine AWP.ret ⟨.inl rfl, ?_⟩
      exact RetIs.oneV rfl rfl (by (rw [knownB, decide_eq_false c0, decide_eq_false c1, ← hinv]; rfl) <;> rfl)
def inR8 (op : ByteArray) (a b : Tr) : Bool := match a, b with | .mk ak _ _ _, .mk bk _ _ _ => (decide (ak = bk) && decide (ak ≤ 2)) && knownB op ak
def inR9 (op : ByteArray) (b : Tr) : Prop := (isI b 0 = true ∧ (op = oPlus ∨ op = oMinus)) ∨ (isI b 1 = true ∧ op = oTimes)
def inR10 (op : ByteArray) (a : Tr) : Prop := (isI a 0 = true ∧ op = oPlus) ∨ (isI a 1 = true ∧ op = oTimes)
def inR11 (op : ByteArray) (a b : Tr) : Prop := (op = oAnd ∧ (isB b 1 = true ∨ isB a 0 = true)) ∨ (op = oOr ∧ (isB b 0 = true ∨ isB a 1 = true))
def inR12 (op : ByteArray) (a : Tr) : Prop := (op = oAnd ∧ isB a 1 = true) ∨ (op = oOr ∧ isB a 0 = true)
instance (op : ByteArray) (b : Tr) : Decidable (inR9 op b) := by unfold inR9; infer_instance
instance (op : ByteArray) (b : Tr) : Decidable (inR10 op b) := by unfold inR10; infer_instance
instance (op : ByteArray) (a b : Tr) : Decidable (inR11 op a b) := by unfold inR11; infer_instance
instance (op : ByteArray) (b : Tr) : Decidable (inR12 op b) := by unfold inR12; infer_instance
def lit2 (op : ByteArray) : Tr → Tr → Tr
  | .mk ak an az _, .mk _ bv bs _ => litT op ak an bv az bs
def binT (op : ByteArray) (a b e : Tr) : Tr × Int :=
  if inR8 op a b = true then (lit2 op a b, 8) else if inR9 op b then (a, 9) else if inR10 op a then (b, 10) else if inR11 op a b then (a, 11) else if inR12 op a then (b, 12) else (e, 0)
theorem bin8 {op : ByteArray} {a b e : Tr} (h : inR8 op a b = true) : binT op a b e = (lit2 op a b, 8) := if_pos h
theorem bin9 {op : ByteArray} {a b e : Tr} (h : ¬ inR8 op a b = true) (h9 : inR9 op b) : binT op a b e = (a, 9) := by rw [binT, if_neg h, if_pos h9]
theorem bin10 {op : ByteArray} {a b e : Tr} (h : ¬ inR8 op a b = true) (h9 : ¬ inR9 op b) (h10 : inR10 op a) : binT op a b e = (b, 10) := by rw [binT, if_neg h, if_neg h9, if_pos h10]
theorem bin11 {op : ByteArray} {a b e : Tr} (h : ¬ inR8 op a b = true) (h9 : ¬ inR9 op b) (h10 : ¬ inR10 op a) (h11 : inR11 op a b) : binT op a b e = (a, 11) := by rw [binT, if_neg h, if_neg h9, if_neg h10, if_pos h11]
theorem bin12 {op : ByteArray} {a b e : Tr} (h : ¬ inR8 op a b = true) (h9 : ¬ inR9 op b) (h10 : ¬ inR10 op a) (h11 : ¬ inR11 op a b) (h12 : inR12 op a) : binT op a b e = (b, 12) := by rw [binT, if_neg h, if_neg h9, if_neg h10, if_neg h11, if_pos h12]
theorem bin0 {op : ByteArray} {a b e : Tr} (h : ¬ inR8 op a b = true) (h9 : ¬ inR9 op b) (h10 : ¬ inR10 op a) (h11 : ¬ inR11 op a b) (h12 : ¬ inR12 op a) : binT op a b e = (e, 0) := by rw [binT, if_neg h, if_neg h9, if_neg h10, if_neg h11, if_neg h12]
def simV (x : Tr × Int) : AV → Hp → Prop := fun r hp' => r = .tup [x.1.av, int x.2] ∧ hp' = []
theorem known_five {op : ByteArray} {k : Int} (h : knownB op k = true) : fiveB op := by
  simp only [knownB, Bool.or_eq_true, Bool.and_eq_true, decide_eq_true_eq] at h
  unfold fiveB
  rcases h with h | ⟨h, _⟩ | ⟨h | h | h, _⟩
  · exact .inr (.inr (.inr (.inr h)))
  · exact .inl h
  · exact .inr (.inl h)
  · exact .inr (.inr (.inl h))
  · exact .inr (.inr (.inr (.inl h)))
theorem kn_int {op : ByteArray} {k : Int} (h : memB opB op = true) (h1 : op ≠ oAnd) (h2 : op ≠ oOr) (hk : k = 0) : knownB op k = true := by
  subst hk
  rw [memB_iff] at h
  simp only [opB, List.mem_cons, List.not_mem_nil, or_false] at h
  rcases h with rfl | rfl | rfl | rfl | rfl | rfl | rfl
  · rfl
  · rfl
  · rfl
  · rfl
  · rfl
  · exact absurd rfl h1
  · exact absurd rfl h2
theorem kn_and (k : Int) : knownB oAnd k = false := by simp [knownB]
theorem kn_or (k : Int) : knownB oOr k = false := by simp [knownB]
theorem kn_two {op : ByteArray} {k : Int} (h : k = 2) (h1 : op ≠ oPlus) (h2 : op ≠ oSame) : knownB op k = false := by subst h; simp [knownB, h1, h2]
theorem kn_one {op : ByteArray} {k : Int} (h : k = 1) : knownB op k = decide (op = oSame) := by subst h; simp [knownB]
theorem simplerBin_AH (kd nm : Int) (op : ByteArray) (ak an : Int) (az : ByteArray) (aks : List Tr) (bk bv : Int) (bs : ByteArray) (bks : List Tr) (ha : okLit ak an az) (hb : okLit bk bv bs) (hop : memB opB op = true) : FnH 45 [] [Tr.av (.mk kd nm op [.mk ak an az aks, .mk bk bv bs bks])] (simV (binT op (.mk ak an az aks) (.mk bk bv bs bks) (.mk kd nm op [.mk ak an az aks, .mk bk bv bs bks]))) := by
  have ha' := ha
  have hb' := hb
  obtain ⟨p1, p2, p3, p4, p5, p6, p7⟩ := ha
  obtain ⟨q1, q2, q3, q4, q5, q6, q7⟩ := hb
  refine AH.intro Tryz.func45 nm45 rfl rfl rfl fun w0 ok0 own0 => ?_
  refine AWP.seq ?_
  refine AWP.region ?_
  refine AOps.box rfl rfl rfl rfl fun b1 => ?_
  refine AOps.alloc rfl z28 rfl rfl fun b2 => ?_
  refine Y (ass rfl) rfl ?_
  refine AOps.nil ?_
  refine AWP.seq ?_
  refine AWP.prune (tm' := [(0, _), (1, _), (2, _), (3, _)]) ⟨rfl, rfl, rfl, rfl, trivial⟩ ?_
  refine AWP.drawnM [] [.pure 0, .pure 1, .pure 2, .pure 3, .pure 4, .pure 5, .pure 6, .pure 7, .pure 8, .pure 9, .pure 10, .pure 11, .spine 12 [10] [0, 1, 2, 3, 10, 11], .spine 13 [11] [0, 1, 2, 3, 4, 5, 6, 7, 10, 11, 12], .pure 14] mixed rfl rfl rfl rfl rfl ?_
  refine DM.pure (GX (tm' := [(1, _)]) rfl ⟨rfl, trivial⟩ rfl (DStep.yields (Yields.fieldAddr_ptr fo28_3 rfl)) rfl) ?_
  refine DM.pure (GX (tm' := [(11, _)]) rfl ⟨rfl, trivial⟩ rfl (DStep.yields (Yields.load_ptr_field (j := 1) kd26 rfl rfl rfl rfl rfl rfl rfl)) rfl) ?_
  refine DM.pure (GX (tm' := [(12, _)]) rfl ⟨rfl, trivial⟩ rfl (DStep.yields (Yields.idx_roN sl26 rfl rfl rfl (j := 0) rfl (by simp [Tr.avs]))) rfl) ?_
  refine DM.pure (GX (tm' := [(13, _)]) rfl ⟨rfl, trivial⟩ rfl (DStep.yields (Yields.load_rop_aggV kd28 rfl rfl rfl)) rfl) ?_
  refine DM.pure (GX (tm' := [(1, _)]) rfl ⟨rfl, trivial⟩ rfl (DStep.yields (Yields.fieldAddr_ptr fo28_3 rfl)) rfl) ?_
  refine DM.pure (GX (tm' := [(15, _)]) rfl ⟨rfl, trivial⟩ rfl (DStep.yields (Yields.load_ptr_field (j := 1) kd26 rfl rfl rfl rfl rfl rfl rfl)) rfl) ?_
  refine DM.pure (GX (tm' := [(16, _)]) rfl ⟨rfl, trivial⟩ rfl (DStep.yields (Yields.idx_roN sl26 rfl rfl rfl (j := 1) rfl (by simp [Tr.avs]))) rfl) ?_
  refine DM.pure (GX (tm' := [(17, _)]) rfl ⟨rfl, trivial⟩ rfl (DStep.yields (Yields.load_rop_aggV kd28 rfl rfl rfl)) rfl) ?_
  refine DM.pure (GX (tm' := [(1, _)]) rfl ⟨rfl, trivial⟩ rfl (DStep.yields (Yields.fieldAddr_ptr fo28_2 rfl)) rfl) ?_
  refine DM.pure (GX (tm' := [(19, _)]) rfl ⟨rfl, trivial⟩ rfl (DStep.yields (Yields.load_ptr_field (j := 1) kd9 rfl rfl rfl rfl rfl rfl rfl)) rfl) ?_
  refine DM.pure (GXs (tm' := []) rfl trivial rfl rfl (DStepU.alloc z28 rfl rfl) rfl) ?_
  refine DM.pure (GXs (tm' := []) rfl trivial rfl rfl (DStepU.alloc z28 rfl rfl) rfl) ?_
  refine DM.sp rfl rfl ?_
  refine DOpen.optr rfl fun b4 => ?_
  refine DOpen.nil fun _ _ _ => ?_
  refine AOps.subT (tm' := [(4, _), (14, _)]) ⟨rfl, rfl, trivial⟩ ?_
  refine AOps.store (j := 0) kd28 rfl rfl rfl rfl rfl rfl ?_
  refine AOps.nil ?_
  refine SpK.mk0 ?_ ?_
  ·
   skip
   refine Stab.skip rfl ?_
   refine Stab.skip rfl ?_
   refine Stab.keep (GX (tm' := [(19, _)]) rfl ⟨rfl, trivial⟩ rfl (DStep.yields (Yields.load_ptr_field (j := 2) kd9 rfl rfl rfl rfl rfl rfl rfl)) rfl) ?_
   refine Stab.keep (GX (tm' := [(1, _)]) rfl ⟨rfl, trivial⟩ rfl (DStep.yields (Yields.fieldAddr_ptr fo28_2 rfl)) rfl) ?_
   refine Stab.keep (GX (tm' := [(17, _)]) rfl ⟨rfl, trivial⟩ rfl (DStep.yields (Yields.load_rop_aggV kd28 rfl rfl rfl)) rfl) ?_
   refine Stab.keep (GX (tm' := [(16, _)]) rfl ⟨rfl, trivial⟩ rfl (DStep.yields (Yields.idx_roN sl26 rfl rfl rfl (j := 1) rfl (by simp [Tr.avs]))) rfl) ?_
   refine Stab.keep (GX (tm' := [(15, _)]) rfl ⟨rfl, trivial⟩ rfl (DStep.yields (Yields.load_ptr_field (j := 2) kd26 rfl rfl rfl rfl rfl rfl rfl)) rfl) ?_
   refine Stab.keep (GX (tm' := [(1, _)]) rfl ⟨rfl, trivial⟩ rfl (DStep.yields (Yields.fieldAddr_ptr fo28_3 rfl)) rfl) ?_
   refine Stab.skip rfl ?_
   refine Stab.skip rfl ?_
   refine Stab.skip rfl ?_
   refine Stab.skip rfl ?_
   exact trivial
  refine DM.sp rfl rfl ?_
  refine DOpen.optr rfl fun b5 => ?_
  refine DOpen.nil fun _ _ _ => ?_
  refine AOps.subT (tm' := [(5, _), (18, _)]) ⟨rfl, rfl, trivial⟩ ?_
  refine AOps.store (j := 0) kd28 rfl rfl rfl rfl rfl rfl ?_
  refine AOps.nil ?_
  refine SpK.mk0 ?_ ?_
  ·
   skip
   refine Stab.skip rfl ?_
   refine Stab.skip rfl ?_
   refine Stab.keep (GX (tm' := [(19, _)]) rfl ⟨rfl, trivial⟩ rfl (DStep.yields (Yields.load_ptr_field (j := 3) kd9 rfl rfl rfl rfl rfl rfl rfl)) rfl) ?_
   refine Stab.keep (GX (tm' := [(1, _)]) rfl ⟨rfl, trivial⟩ rfl (DStep.yields (Yields.fieldAddr_ptr fo28_2 rfl)) rfl) ?_
   refine Stab.skip rfl ?_
   refine Stab.skip rfl ?_
   refine Stab.skip rfl ?_
   refine Stab.skip rfl ?_
   refine Stab.skip rfl ?_
   refine Stab.skip rfl ?_
   refine Stab.skip rfl ?_
   refine Stab.skip rfl ?_
   exact trivial
  refine DM.pure (GX (tm' := [(20, _)]) rfl ⟨rfl, trivial⟩ rfl (DStep.yields (ass rfl)) rfl) ?_
  refine DM.nil ?_
  refine AWP.midE (α := Bool) (fun d : Bool => ⟨[(1, .ptr (some b1) 0 0 4), (2, .ptr (some b2) 0 0 4), (4, .ptr (some b4) 0 0 4), (5, .ptr (some b5) 0 0 4), (6, str op)], [(some b1, ⟨4, [Tr.av (.mk kd nm op [.mk ak an az aks, .mk bk bv bs bks])]⟩), (some b2, ⟨4, [zero4]⟩), (some b4, ⟨4, [Tr.av (.mk ak an az aks)]⟩), (some b5, ⟨4, [Tr.av (.mk bk bv bs bks)]⟩)]⟩) (fun d : Bool => ¬ inR8 op (.mk ak an az aks) (.mk bk bv bs bks) = true) ?_ ?_
  ·
   skip
   refine AWP.seq ?_
   refine AWP.region ?_
   refine Y (Yields.fieldAddr_ptr fo28_0 rfl) rfl ?_
   refine Y (Yields.load_ptr_field (j := 1) kd3 rfl rfl rfl rfl rfl rfl rfl) rfl ?_
   refine Y (Yields.fieldAddr_ptr fo28_0 rfl) rfl ?_
   refine Y (Yields.load_ptr_field (j := 0) kd3 rfl rfl rfl rfl rfl rfl rfl) rfl ?_
   refine Y (bn rfl rfl BinR.eql rfl) rfl ?_
   refine Y (mv rfl) rfl ?_
   refine AOps.split 26 rfl (fun g1 => ?_) (fun g1 => ?_)
   ·
    replace g1 := eq_of_beq g1
    refine AOps.on rfl rfl ?_
    refine Y (Yields.fieldAddr_ptr fo28_0 rfl) rfl ?_
    refine AOps.on rfl rfl ?_
    refine Y (Yields.load_ptr_field (j := 1) kd3 rfl rfl rfl rfl rfl rfl rfl) rfl ?_
    refine AOps.on rfl rfl ?_
    refine Y (bn rfl rfl BinR.leq rfl) rfl ?_
    refine Y (Yields.pick_true rfl rfl) rfl ?_
    refine AOps.nil ?_
    refine AWP.condT rfl (fun g2 => ?_) (fun g2 => ?_)
    ·
     replace g2 := of_decide_eq_true g2
     refine AWP.seq ?_
     refine AWP.prune (tm' := [(0, _), (1, _), (2, _), (3, _), (4, _), (5, _), (6, _), (30, _)]) ⟨rfl, rfl, rfl, rfl, rfl, rfl, rfl, rfl, trivial⟩ ?_
     refine AWP.drawnM [] [.pure 0, .pure 1, .pure 2, .pure 3, .pure 4, .pure 5, .pure 6, .pure 7, .pure 8, .pure 9, .pure 10, .pure 11, .spine 12 [10] [0, 1, 2, 3, 4, 10, 11], .spine 13 [11] [0, 1, 2, 3, 4, 5, 6, 7, 8, 9, 10, 11, 12]] mixed rfl rfl rfl rfl rfl ?_
     refine DM.pure (GX (tm' := [(4, _)]) rfl ⟨rfl, trivial⟩ rfl (DStep.yields (Yields.fieldAddr_ptr fo28_1 rfl)) rfl) ?_
     refine DM.pure (GX (tm' := [(31, _)]) rfl ⟨rfl, trivial⟩ rfl (DStep.yields (Yields.load_ptr_field (j := 1) kd3 rfl rfl rfl rfl rfl rfl rfl)) rfl) ?_
     refine DM.pure (GX (tm' := [(4, _)]) rfl ⟨rfl, trivial⟩ rfl (DStep.yields (Yields.fieldAddr_ptr fo28_2 rfl)) rfl) ?_
     refine DM.pure (GX (tm' := [(33, _)]) rfl ⟨rfl, trivial⟩ rfl (DStep.yields (Yields.load_ptr_field (j := 1) kd9 rfl rfl rfl rfl rfl rfl rfl)) rfl) ?_
     refine DM.pure (GX (tm' := [(32, _), (34, _)]) rfl ⟨rfl, rfl, trivial⟩ rfl (DStep.yields (Yields.build pl65 z65 rfl rfl)) rfl) ?_
     refine DM.pure (GX (tm' := [(5, _)]) rfl ⟨rfl, trivial⟩ rfl (DStep.yields (Yields.fieldAddr_ptr fo28_1 rfl)) rfl) ?_
     refine DM.pure (GX (tm' := [(36, _)]) rfl ⟨rfl, trivial⟩ rfl (DStep.yields (Yields.load_ptr_field (j := 0) kd3 rfl rfl rfl rfl rfl rfl rfl)) rfl) ?_
     refine DM.pure (GX (tm' := [(5, _)]) rfl ⟨rfl, trivial⟩ rfl (DStep.yields (Yields.fieldAddr_ptr fo28_2 rfl)) rfl) ?_
     refine DM.pure (GX (tm' := [(38, _)]) rfl ⟨rfl, trivial⟩ rfl (DStep.yields (Yields.load_ptr_field (j := 0) kd9 rfl rfl rfl rfl rfl rfl rfl)) rfl) ?_
     refine DM.pure (GX (tm' := [(37, _), (39, _)]) rfl ⟨rfl, rfl, trivial⟩ rfl (DStep.yields (Yields.build pl65 z65 rfl rfl)) rfl) ?_
     refine DM.pure (GXs (tm' := []) rfl trivial rfl rfl (DStepU.alloc z65 rfl rfl) rfl) ?_
     refine DM.pure (GXs (tm' := []) rfl trivial rfl rfl (DStepU.alloc z65 rfl rfl) rfl) ?_
     refine DM.sp rfl rfl ?_
     refine DOpen.optr rfl fun b7 => ?_
     refine DOpen.nil fun _ _ _ => ?_
     refine AOps.subT (tm' := [(7, _), (35, _)]) ⟨rfl, rfl, trivial⟩ ?_
     refine AOps.store (j := 0) kd65 rfl rfl rfl rfl rfl rfl ?_
     refine AOps.nil ?_
     refine SpK.mk0 ?_ ?_
     ·
      skip
      refine Stab.skip rfl ?_
      refine Stab.skip rfl ?_
      refine Stab.keep (GX (tm' := [(37, _), (39, _)]) rfl ⟨rfl, rfl, trivial⟩ rfl (DStep.yields (Yields.build pl65 z65 rfl rfl)) rfl) ?_
      refine Stab.keep (GX (tm' := [(38, _)]) rfl ⟨rfl, trivial⟩ rfl (DStep.yields (Yields.load_ptr_field (j := 1) kd9 rfl rfl rfl rfl rfl rfl rfl)) rfl) ?_
      refine Stab.keep (GX (tm' := [(5, _)]) rfl ⟨rfl, trivial⟩ rfl (DStep.yields (Yields.fieldAddr_ptr fo28_2 rfl)) rfl) ?_
      refine Stab.keep (GX (tm' := [(36, _)]) rfl ⟨rfl, trivial⟩ rfl (DStep.yields (Yields.load_ptr_field (j := 1) kd3 rfl rfl rfl rfl rfl rfl rfl)) rfl) ?_
      refine Stab.keep (GX (tm' := [(5, _)]) rfl ⟨rfl, trivial⟩ rfl (DStep.yields (Yields.fieldAddr_ptr fo28_1 rfl)) rfl) ?_
      refine Stab.skip rfl ?_
      refine Stab.skip rfl ?_
      refine Stab.skip rfl ?_
      refine Stab.skip rfl ?_
      refine Stab.skip rfl ?_
      exact trivial
     refine DM.sp rfl rfl ?_
     refine DOpen.optr rfl fun b8 => ?_
     refine DOpen.nil fun _ _ _ => ?_
     refine AOps.subT (tm' := [(8, _), (40, _)]) ⟨rfl, rfl, trivial⟩ ?_
     refine AOps.store (j := 0) kd65 rfl rfl rfl rfl rfl rfl ?_
     refine AOps.nil ?_
     refine SpK.mk0 (Stab.all rfl) ?_
     refine DM.nil ?_
     refine AWP.midE (α := Int) (fun xk : Int => ⟨[(1, .ptr (some b1) 0 0 4), (2, .ptr (some b2) 0 0 4), (4, .ptr (some b4) 0 0 4), (5, .ptr (some b5) 0 0 4), (6, str op), (7, .ptr (some b7) 0 0 4), (8, .ptr (some b8) 0 0 4)], [(some b1, ⟨4, [Tr.av (.mk kd nm op [.mk ak an az aks, .mk bk bv bs bks])]⟩), (some b2, ⟨4, [zero4]⟩), (some b4, ⟨4, [Tr.av (.mk ak an az aks)]⟩), (some b5, ⟨4, [Tr.av (.mk bk bv bs bks)]⟩), (some b7, ⟨4, [.agg [int xk, int an, str az, .val (.slice none 0 0)]]⟩), (some b8, ⟨4, [.agg [int xk, int bv, str bs, .val (.slice none 0 0)]]⟩)]⟩) (fun xk : Int => (xk = 0 ∨ xk = 2) ∧ (xk = 2 ↔ ak = 2)) ?_ ?_
     ·
      skip
      refine AWP.seq ?_
      refine AWP.region ?_
      refine Y (Yields.fieldAddr_ptr fo28_0 rfl) rfl ?_
      refine Y (Yields.load_ptr_field (j := 3) kd3 rfl rfl rfl rfl rfl rfl rfl) rfl ?_
      refine Y (bn rfl rfl BinR.eql rfl) rfl ?_
      refine AOps.nil ?_
      refine AWP.condT rfl (fun g3 => ?_) (fun g3 => ?_)
      ·
       replace g3 := eq_of_beq g3
       refine AWP.region ?_
       refine Y (Yields.fieldAddr_ptr fo65_0 rfl) rfl ?_
       refine AOps.storeField (j := 1) kd3 rfl rfl rfl rfl rfl rfl rfl ?_
       refine Y (Yields.fieldAddr_ptr fo65_0 rfl) rfl ?_
       refine AOps.storeField (j := 0) kd3 rfl rfl rfl rfl rfl rfl rfl ?_
       refine AOps.nil ?_
       refine ⟨2, ?_, ?_⟩
       ·
        show (2 = 0 ∨ 2 = 2) ∧ (2 = 2 ↔ ak = 2)
        exact ⟨.inr rfl, by simp [g3]⟩
       · exact Leads.keepR (KeepR.cons 5 rfl (KeepR.cons 4 rfl (KeepR.cons 3 rfl (KeepR.cons 2 rfl (KeepR.cons 1 rfl (KeepR.cons 0 rfl KeepR.nil)))))) ⟨rfl, rfl, rfl, rfl, rfl, rfl, rfl, trivial⟩
      ·
       replace g3 := ne_of_beq_false g3
       refine AWP.skip ?_
       refine ⟨0, ?_, ?_⟩
       ·
        show (0 = 0 ∨ 0 = 2) ∧ (0 = 2 ↔ ak = 2)
        exact ⟨.inl rfl, by simp [g3]⟩
       · exact Leads.keepR (KeepR.cons 5 rfl (KeepR.cons 4 rfl (KeepR.cons 3 rfl (KeepR.cons 2 rfl (KeepR.cons 1 rfl (KeepR.cons 0 rfl KeepR.nil)))))) ⟨rfl, rfl, rfl, rfl, rfl, rfl, rfl, trivial⟩
     ·
      rintro xk hinv
      refine AWP.midE (α := Bool) (fun c : Bool => ⟨[(1, .ptr (some b1) 0 0 4), (2, .ptr (some b2) 0 0 4), (4, .ptr (some b4) 0 0 4), (5, .ptr (some b5) 0 0 4), (6, str op), (7, .ptr (some b7) 0 0 4), (8, .ptr (some b8) 0 0 4), (9, bool c)], [(some b1, ⟨4, [Tr.av (.mk kd nm op [.mk ak an az aks, .mk bk bv bs bks])]⟩), (some b2, ⟨4, [zero4]⟩), (some b4, ⟨4, [Tr.av (.mk ak an az aks)]⟩), (some b5, ⟨4, [Tr.av (.mk bk bv bs bks)]⟩), (some b7, ⟨4, [.agg [int xk, int an, str az, .val (.slice none 0 0)]]⟩), (some b8, ⟨4, [.agg [int xk, int bv, str bs, .val (.slice none 0 0)]]⟩)]⟩) (fun c : Bool => c = knownB op ak ∧ (xk = 0 ∨ xk = 2) ∧ (xk = 2 ↔ ak = 2)) ?_ ?_
      ·
       skip
       refine AWP.region ?_
       refine Y (Yields.fieldAddr_ptr fo28_0 rfl) rfl ?_
       refine Y (Yields.load_ptr_field (j := 2) kd3 rfl rfl rfl rfl rfl rfl rfl) rfl ?_
       refine Y (bn rfl rfl BinR.eql rfl) rfl ?_
       refine Y (mv rfl) rfl ?_
       refine AOps.split 49 rfl (fun h1 => ?_) (fun h1 => ?_)
       ·
        replace h1 := eq_of_beq h1
        refine AOps.on rfl rfl ?_
        refine Y (mv rfl) rfl ?_
        refine AOps.on rfl rfl ?_
        refine Y (bn rfl rfl BinR.sneq rfl) rfl ?_
        refine Y (Yields.pick_true rfl rfl) rfl ?_
        refine Y (mv rfl) rfl ?_
        refine AOps.split 53 rfl (fun h2 => ?_) (fun h2 => ?_)
        ·
         replace h2 := of_decide_eq_true h2
         refine AOps.on rfl rfl ?_
         refine Y (mv rfl) rfl ?_
         refine AOps.on rfl rfl ?_
         refine Y (bn rfl rfl BinR.sneq rfl) rfl ?_
         refine Y (Yields.pick_true rfl rfl) rfl ?_
         refine Y (mv rfl) rfl ?_
         refine AOps.split 57 rfl (fun h3 => ?_) (fun h3 => ?_)
         ·
          replace h3 := of_decide_eq_true h3
          refine AOps.off' rfl rfl rfl rfl ?_
          refine AOps.off' rfl rfl rfl rfl ?_
          refine AOps.off' rfl rfl rfl rfl ?_
          refine AOps.off' rfl rfl rfl rfl ?_
          refine AOps.offU rfl rfl rfl ?_
          refine AOps.offU rfl rfl rfl ?_
          refine AOps.offU rfl rfl rfl ?_
          refine AOps.offU rfl rfl rfl ?_
          refine AOps.offU rfl rfl rfl ?_
          refine AOps.offU rfl rfl rfl ?_
          refine AOps.off' rfl rfl rfl rfl ?_
          refine Y (Yields.pick_true rfl rfl) rfl ?_
          refine Y (mv rfl) rfl ?_
          refine AOps.off' rfl rfl rfl rfl ?_
          refine AOps.off' rfl rfl rfl rfl ?_
          refine AOps.off' rfl rfl rfl rfl ?_
          refine AOps.off' rfl rfl rfl rfl ?_
          refine AOps.offU rfl rfl rfl ?_
          refine AOps.offU rfl rfl rfl ?_
          refine AOps.off' rfl rfl rfl rfl ?_
          refine Y (Yields.pick_true rfl rfl) rfl ?_
          refine Y (ass rfl) rfl ?_
          refine AOps.nil ?_
          refine ⟨true, ?_, ?_⟩
          ·
           show true = knownB op ak ∧ (xk = 0 ∨ xk = 2) ∧ (xk = 2 ↔ ak = 2)
           exact ⟨(kn_int hop h2 h3 h1).symm, hinv⟩
          · exact Leads.keepR (KeepR.cons 0 rfl (KeepR.cons 0 rfl (KeepR.cons 0 rfl (KeepR.cons 0 rfl (KeepR.cons 0 rfl (KeepR.cons 0 rfl KeepR.nil)))))) ⟨rfl, rfl, rfl, rfl, rfl, rfl, rfl, rfl, trivial⟩
         ·
          replace h3 := Decidable.of_not_not (of_decide_eq_false h3)
          refine AOps.on rfl rfl ?_
          refine Y (Yields.fieldAddr_ptr fo28_0 rfl) rfl ?_
          refine AOps.on rfl rfl ?_
          refine Y (Yields.load_ptr_field (j := 2) kd3 rfl rfl rfl rfl rfl rfl rfl) rfl ?_
          refine AOps.on rfl rfl ?_
          refine Y (bn rfl rfl BinR.eql rfl) rfl ?_
          refine AOps.on rfl rfl ?_
          refine Y (mv rfl) rfl ?_
          refine AOps.split 61 rfl (fun h4 => ?_) (fun h4 => ?_)
          ·
           replace h4 := eq_of_beq h4
           omega
          ·
           replace h4 := ne_of_beq_false h4
           refine AOps.off' rfl rfl rfl rfl ?_
           refine AOps.off' rfl rfl rfl rfl ?_
           refine AOps.off' rfl rfl rfl rfl ?_
           refine AOps.offU rfl rfl rfl ?_
           refine AOps.offU rfl rfl rfl ?_
           refine AOps.off' rfl rfl rfl rfl ?_
           refine AOps.on rfl rfl ?_
           refine Y (Yields.pick_false rfl rfl) rfl ?_
           refine Y (Yields.pick_false rfl rfl) rfl ?_
           refine Y (mv rfl) rfl ?_
           refine AOps.on rfl rfl ?_
           refine Y (Yields.fieldAddr_ptr fo28_0 rfl) rfl ?_
           refine AOps.on rfl rfl ?_
           refine Y (Yields.load_ptr_field (j := 2) kd3 rfl rfl rfl rfl rfl rfl rfl) rfl ?_
           refine AOps.on rfl rfl ?_
           refine Y (bn rfl rfl BinR.eql rfl) rfl ?_
           refine AOps.on rfl rfl ?_
           refine Y (mv rfl) rfl ?_
           refine AOps.split 74 rfl (fun h5 => ?_) (fun h5 => ?_)
           ·
            replace h5 := eq_of_beq h5
            omega
           ·
            replace h5 := ne_of_beq_false h5
            refine AOps.off' rfl rfl rfl rfl ?_
            refine AOps.off' rfl rfl rfl rfl ?_
            refine AOps.on rfl rfl ?_
            refine Y (Yields.pick_false rfl rfl) rfl ?_
            refine Y (Yields.pick_false rfl rfl) rfl ?_
            refine Y (ass rfl) rfl ?_
            refine AOps.nil ?_
            refine ⟨false, ?_, ?_⟩
            ·
             show false = knownB op ak ∧ (xk = 0 ∨ xk = 2) ∧ (xk = 2 ↔ ak = 2)
             exact ⟨by rw [h3]; exact (kn_or _).symm, hinv⟩
            · exact Leads.keepR (KeepR.cons 0 rfl (KeepR.cons 0 rfl (KeepR.cons 0 rfl (KeepR.cons 0 rfl (KeepR.cons 0 rfl (KeepR.cons 0 rfl KeepR.nil)))))) ⟨rfl, rfl, rfl, rfl, rfl, rfl, rfl, rfl, trivial⟩
        ·
         replace h2 := Decidable.of_not_not (of_decide_eq_false h2)
         refine AOps.off' rfl rfl rfl rfl ?_
         refine AOps.off' rfl rfl rfl rfl ?_
         refine Y (Yields.pick_false rfl rfl) rfl ?_
         refine Y (mv rfl) rfl ?_
         refine AOps.on rfl rfl ?_
         refine Y (Yields.fieldAddr_ptr fo28_0 rfl) rfl ?_
         refine AOps.on rfl rfl ?_
         refine Y (Yields.load_ptr_field (j := 2) kd3 rfl rfl rfl rfl rfl rfl rfl) rfl ?_
         refine AOps.on rfl rfl ?_
         refine Y (bn rfl rfl BinR.eql rfl) rfl ?_
         refine AOps.on rfl rfl ?_
         refine Y (mv rfl) rfl ?_
         refine AOps.split 61 rfl (fun h4 => ?_) (fun h4 => ?_)
         ·
          replace h4 := eq_of_beq h4
          omega
         ·
          replace h4 := ne_of_beq_false h4
          refine AOps.off' rfl rfl rfl rfl ?_
          refine AOps.off' rfl rfl rfl rfl ?_
          refine AOps.off' rfl rfl rfl rfl ?_
          refine AOps.offU rfl rfl rfl ?_
          refine AOps.offU rfl rfl rfl ?_
          refine AOps.off' rfl rfl rfl rfl ?_
          refine AOps.on rfl rfl ?_
          refine Y (Yields.pick_false rfl rfl) rfl ?_
          refine Y (Yields.pick_false rfl rfl) rfl ?_
          refine Y (mv rfl) rfl ?_
          refine AOps.on rfl rfl ?_
          refine Y (Yields.fieldAddr_ptr fo28_0 rfl) rfl ?_
          refine AOps.on rfl rfl ?_
          refine Y (Yields.load_ptr_field (j := 2) kd3 rfl rfl rfl rfl rfl rfl rfl) rfl ?_
          refine AOps.on rfl rfl ?_
          refine Y (bn rfl rfl BinR.eql rfl) rfl ?_
          refine AOps.on rfl rfl ?_
          refine Y (mv rfl) rfl ?_
          refine AOps.split 74 rfl (fun h5 => ?_) (fun h5 => ?_)
          ·
           replace h5 := eq_of_beq h5
           omega
          ·
           replace h5 := ne_of_beq_false h5
           refine AOps.off' rfl rfl rfl rfl ?_
           refine AOps.off' rfl rfl rfl rfl ?_
           refine AOps.on rfl rfl ?_
           refine Y (Yields.pick_false rfl rfl) rfl ?_
           refine Y (Yields.pick_false rfl rfl) rfl ?_
           refine Y (ass rfl) rfl ?_
           refine AOps.nil ?_
           refine ⟨false, ?_, ?_⟩
           ·
            show false = knownB op ak ∧ (xk = 0 ∨ xk = 2) ∧ (xk = 2 ↔ ak = 2)
            exact ⟨by rw [h2]; exact (kn_and _).symm, hinv⟩
           · exact Leads.keepR (KeepR.cons 0 rfl (KeepR.cons 0 rfl (KeepR.cons 0 rfl (KeepR.cons 0 rfl (KeepR.cons 0 rfl (KeepR.cons 0 rfl KeepR.nil)))))) ⟨rfl, rfl, rfl, rfl, rfl, rfl, rfl, rfl, trivial⟩
       ·
        replace h1 := ne_of_beq_false h1
        refine AOps.off' rfl rfl rfl rfl ?_
        refine AOps.off' rfl rfl rfl rfl ?_
        refine Y (Yields.pick_false rfl rfl) rfl ?_
        refine Y (mv rfl) rfl ?_
        refine AOps.off' rfl rfl rfl rfl ?_
        refine AOps.off' rfl rfl rfl rfl ?_
        refine Y (Yields.pick_false rfl rfl) rfl ?_
        refine Y (mv rfl) rfl ?_
        refine AOps.on rfl rfl ?_
        refine Y (Yields.fieldAddr_ptr fo28_0 rfl) rfl ?_
        refine AOps.on rfl rfl ?_
        refine Y (Yields.load_ptr_field (j := 2) kd3 rfl rfl rfl rfl rfl rfl rfl) rfl ?_
        refine AOps.on rfl rfl ?_
        refine Y (bn rfl rfl BinR.eql rfl) rfl ?_
        refine AOps.on rfl rfl ?_
        refine Y (mv rfl) rfl ?_
        refine AOps.split 61 rfl (fun h4 => ?_) (fun h4 => ?_)
        ·
         replace h4 := eq_of_beq h4
         refine AOps.on rfl rfl ?_
         refine Y (mv rfl) rfl ?_
         refine AOps.on rfl rfl ?_
         refine Y (bn rfl rfl BinR.seql rfl) rfl ?_
         refine AOps.on rfl rfl ?_
         refine Y (mv rfl) rfl ?_
         refine AOps.split 64 rfl (fun h6 => ?_) (fun h6 => ?_)
         ·
          replace h6 := of_decide_eq_true h6
          refine AOps.off' rfl rfl rfl rfl ?_
          refine AOps.off' rfl rfl rfl rfl ?_
          refine AOps.on rfl rfl ?_
          refine Y (Yields.pick_true rfl rfl) rfl ?_
          refine AOps.on rfl rfl ?_
          refine Y (Yields.pick_true rfl rfl) rfl ?_
          refine Y (Yields.pick_false rfl rfl) rfl ?_
          refine Y (mv rfl) rfl ?_
          refine AOps.off' rfl rfl rfl rfl ?_
          refine AOps.off' rfl rfl rfl rfl ?_
          refine AOps.off' rfl rfl rfl rfl ?_
          refine AOps.off' rfl rfl rfl rfl ?_
          refine AOps.offU rfl rfl rfl ?_
          refine AOps.offU rfl rfl rfl ?_
          refine AOps.off' rfl rfl rfl rfl ?_
          refine Y (Yields.pick_true rfl rfl) rfl ?_
          refine Y (ass rfl) rfl ?_
          refine AOps.nil ?_
          refine ⟨true, ?_, ?_⟩
          ·
           show true = knownB op ak ∧ (xk = 0 ∨ xk = 2) ∧ (xk = 2 ↔ ak = 2)
           exact ⟨by rw [h4, h6]; rfl, hinv⟩
          · exact Leads.keepR (KeepR.cons 0 rfl (KeepR.cons 0 rfl (KeepR.cons 0 rfl (KeepR.cons 0 rfl (KeepR.cons 0 rfl (KeepR.cons 0 rfl KeepR.nil)))))) ⟨rfl, rfl, rfl, rfl, rfl, rfl, rfl, rfl, trivial⟩
         ·
          replace h6 := of_decide_eq_false h6
          refine AOps.on rfl rfl ?_
          refine Y (mv rfl) rfl ?_
          refine AOps.on rfl rfl ?_
          refine Y (bn rfl rfl BinR.seql rfl) rfl ?_
          refine AOps.on rfl rfl ?_
          refine Y (Yields.pick_false rfl rfl) rfl ?_
          refine AOps.on rfl rfl ?_
          refine Y (Yields.pick_true rfl rfl) rfl ?_
          refine Y (Yields.pick_false rfl rfl) rfl ?_
          refine Y (mv rfl) rfl ?_
          refine AOps.split 70 rfl (fun h7 => ?_) (fun h7 => ?_)
          ·
           replace h7 := of_decide_eq_true h7
           refine AOps.off' rfl rfl rfl rfl ?_
           refine AOps.off' rfl rfl rfl rfl ?_
           refine AOps.off' rfl rfl rfl rfl ?_
           refine AOps.off' rfl rfl rfl rfl ?_
           refine AOps.offU rfl rfl rfl ?_
           refine AOps.offU rfl rfl rfl ?_
           refine AOps.off' rfl rfl rfl rfl ?_
           refine Y (Yields.pick_true rfl rfl) rfl ?_
           refine Y (ass rfl) rfl ?_
           refine AOps.nil ?_
           refine ⟨true, ?_, ?_⟩
           ·
            show true = knownB op ak ∧ (xk = 0 ∨ xk = 2) ∧ (xk = 2 ↔ ak = 2)
            exact ⟨by rw [h7]; rfl, hinv⟩
           · exact Leads.keepR (KeepR.cons 0 rfl (KeepR.cons 0 rfl (KeepR.cons 0 rfl (KeepR.cons 0 rfl (KeepR.cons 0 rfl (KeepR.cons 0 rfl KeepR.nil)))))) ⟨rfl, rfl, rfl, rfl, rfl, rfl, rfl, rfl, trivial⟩
          ·
           replace h7 := of_decide_eq_false h7
           refine AOps.on rfl rfl ?_
           refine Y (Yields.fieldAddr_ptr fo28_0 rfl) rfl ?_
           refine AOps.on rfl rfl ?_
           refine Y (Yields.load_ptr_field (j := 2) kd3 rfl rfl rfl rfl rfl rfl rfl) rfl ?_
           refine AOps.on rfl rfl ?_
           refine Y (bn rfl rfl BinR.eql rfl) rfl ?_
           refine AOps.on rfl rfl ?_
           refine Y (mv rfl) rfl ?_
           refine AOps.split 74 rfl (fun h5 => ?_) (fun h5 => ?_)
           ·
            replace h5 := eq_of_beq h5
            omega
           ·
            replace h5 := ne_of_beq_false h5
            refine AOps.off' rfl rfl rfl rfl ?_
            refine AOps.off' rfl rfl rfl rfl ?_
            refine AOps.on rfl rfl ?_
            refine Y (Yields.pick_false rfl rfl) rfl ?_
            refine Y (Yields.pick_false rfl rfl) rfl ?_
            refine Y (ass rfl) rfl ?_
            refine AOps.nil ?_
            refine ⟨false, ?_, ?_⟩
            ·
             show false = knownB op ak ∧ (xk = 0 ∨ xk = 2) ∧ (xk = 2 ↔ ak = 2)
             exact ⟨(kn_two h4 h6 h7).symm, hinv⟩
            · exact Leads.keepR (KeepR.cons 0 rfl (KeepR.cons 0 rfl (KeepR.cons 0 rfl (KeepR.cons 0 rfl (KeepR.cons 0 rfl (KeepR.cons 0 rfl KeepR.nil)))))) ⟨rfl, rfl, rfl, rfl, rfl, rfl, rfl, rfl, trivial⟩
        ·
         replace h4 := ne_of_beq_false h4
         refine AOps.off' rfl rfl rfl rfl ?_
         refine AOps.off' rfl rfl rfl rfl ?_
         refine AOps.off' rfl rfl rfl rfl ?_
         refine AOps.offU rfl rfl rfl ?_
         refine AOps.offU rfl rfl rfl ?_
         refine AOps.off' rfl rfl rfl rfl ?_
         refine AOps.on rfl rfl ?_
         refine Y (Yields.pick_false rfl rfl) rfl ?_
         refine Y (Yields.pick_false rfl rfl) rfl ?_
         refine Y (mv rfl) rfl ?_
         refine AOps.on rfl rfl ?_
         refine Y (Yields.fieldAddr_ptr fo28_0 rfl) rfl ?_
         refine AOps.on rfl rfl ?_
         refine Y (Yields.load_ptr_field (j := 2) kd3 rfl rfl rfl rfl rfl rfl rfl) rfl ?_
         refine AOps.on rfl rfl ?_
         refine Y (bn rfl rfl BinR.eql rfl) rfl ?_
         refine AOps.on rfl rfl ?_
         refine Y (mv rfl) rfl ?_
         refine AOps.split 74 rfl (fun h5 => ?_) (fun h5 => ?_)
         ·
          replace h5 := eq_of_beq h5
          refine AOps.on rfl rfl ?_
          refine Y (mv rfl) rfl ?_
          refine AOps.on rfl rfl ?_
          refine Y (bn rfl rfl BinR.seql rfl) rfl ?_
          refine AOps.on rfl rfl ?_
          refine Y (Yields.pick_true rfl rfl) rfl ?_
          refine Y (Yields.pick_false rfl rfl) rfl ?_
          refine Y (ass rfl) rfl ?_
          refine AOps.nil ?_
          refine ⟨decide (op = oSame), ?_, ?_⟩
          ·
           show (decide (op = oSame)) = knownB op ak ∧ (xk = 0 ∨ xk = 2) ∧ (xk = 2 ↔ ak = 2)
           exact ⟨(kn_one h5).symm, hinv⟩
          · exact Leads.keepR (KeepR.cons 0 rfl (KeepR.cons 0 rfl (KeepR.cons 0 rfl (KeepR.cons 0 rfl (KeepR.cons 0 rfl (KeepR.cons 0 rfl KeepR.nil)))))) ⟨rfl, rfl, rfl, rfl, rfl, rfl, rfl, rfl, trivial⟩
         ·
          replace h5 := ne_of_beq_false h5
          refine AOps.off' rfl rfl rfl rfl ?_
          refine AOps.off' rfl rfl rfl rfl ?_
          refine AOps.on rfl rfl ?_
          refine Y (Yields.pick_false rfl rfl) rfl ?_
          refine Y (Yields.pick_false rfl rfl) rfl ?_
          refine Y (ass rfl) rfl ?_
          refine AOps.nil ?_
          refine ⟨false, ?_, ?_⟩
          ·
           show false = knownB op ak ∧ (xk = 0 ∨ xk = 2) ∧ (xk = 2 ↔ ak = 2)
           exact ⟨by omega, hinv⟩
          · exact Leads.keepR (KeepR.cons 0 rfl (KeepR.cons 0 rfl (KeepR.cons 0 rfl (KeepR.cons 0 rfl (KeepR.cons 0 rfl (KeepR.cons 0 rfl KeepR.nil)))))) ⟨rfl, rfl, rfl, rfl, rfl, rfl, rfl, rfl, trivial⟩
      ·
       rintro c hinv
       refine AWP.seq ?_
       refine AWP.region ?_
       obtain ⟨hcc, hxk, hxk2⟩ := hinv
       refine Y (mv rfl) rfl ?_
       refine AOps.nil ?_
       refine AWP.condT rfl (fun k1 => ?_) (fun k1 => ?_)
       ·
        skip
        refine AWP.seq ?_
        refine AWP.region ?_
        have hkn : knownB op ak = true := by rw [← hcc, k1]
        refine Y (mv rfl) rfl ?_
        refine Y (Yields.load_ptr_agg (j := 4) kd65 rfl rfl rfl rfl) rfl ?_
        refine Y (Yields.load_ptr_agg (j := 5) kd65 rfl rfl rfl rfl) rfl ?_
        refine AOps.callw (calc_AF op ak xk an bv az bs hxk hxk2 ⟨p4, p5⟩ ⟨q4, q5⟩ p6 q6 (known_five hkn)) rfl rfl ⟨Wk.refl _, wk_leafV _ _ _, wk_leafV _ _ _, trivial⟩ rfl ?_
        refine AOps.alloc rfl z65 rfl rfl fun b10 => ?_
        refine AOps.store (j := 0) kd65 rfl rfl rfl rfl rfl rfl ?_
        refine AOps.nil ?_
        refine AWP.seq ?_
        refine AWP.region ?_
        refine Y (Yields.fieldAddr_ptr fo65_0 rfl) rfl ?_
        refine Y (Yields.load_ptr_field (j := 0) kd3 rfl rfl rfl rfl rfl rfl rfl) rfl ?_
        refine Y (Yields.fieldAddr_ptr fo65_1 rfl) rfl ?_
        refine Y (Yields.load_ptr_field (j := 0) kd3 rfl rfl rfl rfl rfl rfl rfl) rfl ?_
        refine Y (Yields.fieldAddr_ptr fo65_2 rfl) rfl ?_
        refine Y (Yields.load_ptr_field (j := 0) kd9 rfl rfl rfl rfl rfl rfl rfl) rfl ?_
        refine Y (Yields.build pl28 z28 rfl rfl) rfl ?_
        refine AOps.store (j := 2) kd28 rfl rfl rfl rfl rfl rfl ?_
        refine Y (ass rfl) rfl ?_
        refine AOps.nil ?_
        refine AWP.leads (Leads.rowWk 2 0 rfl rfl (wk_leafV _ _ _)) ?_
        refine AWP.ret ⟨.inl rfl, ?_⟩
        exact RetH.of (rs := [.cell 2 28, .tmp 3]) (vs := [_, _]) rfl ⟨resOne.cell (j := 2) rfl rfl kd28 rfl rfl rfl, rfl, trivial⟩ KeepR.nil (⟨by rw [bin8 (by rw [inR8, decide_eq_true g1, decide_eq_true g2, hkn]; rfl)]; rfl, rfl⟩)
       ·
        skip
        refine AWP.skip ?_
        refine ⟨true, ?_, ?_⟩
        ·
         show ¬ inR8 op (.mk ak an az aks) (.mk bk bv bs bks) = true
         simp [inR8, ← hcc, k1]
        · exact Leads.keepR (KeepR.cons 0 rfl (KeepR.cons 0 rfl (KeepR.cons 0 rfl (KeepR.cons 0 rfl KeepR.nil)))) ⟨rfl, rfl, rfl, rfl, rfl, trivial⟩
    ·
     replace g2 := of_decide_eq_false g2
     refine AWP.skip ?_
     refine ⟨true, ?_, ?_⟩
     ·
      show ¬ inR8 op (.mk ak an az aks) (.mk bk bv bs bks) = true
      simp [inR8, g2]
     · exact Leads.keepR (KeepR.cons 3 rfl (KeepR.cons 2 rfl (KeepR.cons 1 rfl (KeepR.cons 0 rfl KeepR.nil)))) ⟨rfl, rfl, rfl, rfl, rfl, trivial⟩
   ·
    replace g1 := ne_of_beq_false g1
    refine AOps.off' rfl rfl rfl rfl ?_
    refine AOps.off' rfl rfl rfl rfl ?_
    refine AOps.off' rfl rfl rfl rfl ?_
    refine Y (Yields.pick_false rfl rfl) rfl ?_
    refine AOps.nil ?_
    refine AWP.cond rfl (fun h => absurd h (by decide)) (fun _ => ?_)
    refine AWP.skip ?_
    refine ⟨true, ?_, ?_⟩
    ·
     show ¬ inR8 op (.mk ak an az aks) (.mk bk bv bs bks) = true
     simp [inR8, g1]
    · exact Leads.keepR (KeepR.cons 3 rfl (KeepR.cons 2 rfl (KeepR.cons 1 rfl (KeepR.cons 0 rfl KeepR.nil)))) ⟨rfl, rfl, rfl, rfl, rfl, trivial⟩
  ·
   rintro d hinv
   have h8 := hinv
   refine AWP.seq ?_
   refine AWP.block ?_
   refine AWP.midE (α := Bool) (fun c9 : Bool => ⟨[(1, .ptr (some b1) 0 0 4), (2, .ptr (some b2) 0 0 4), (4, .ptr (some b4) 0 0 4), (5, .ptr (some b5) 0 0 4), (6, str op), (91, bool c9)], [(some b1, ⟨4, [Tr.av (.mk kd nm op [.mk ak an az aks, .mk bk bv bs bks])]⟩), (some b2, ⟨4, [zero4]⟩), (some b4, ⟨4, [Tr.av (.mk ak an az aks)]⟩), (some b5, ⟨4, [Tr.av (.mk bk bv bs bks)]⟩)]⟩) (fun c9 : Bool => c9 = true ↔ inR9 op (.mk bk bv bs bks)) ?_ ?_
   ·
    skip
    refine AWP.seq ?_
    refine AWP.region ?_
    refine Y (Yields.load_ptr_agg (j := 3) kd28 rfl rfl rfl rfl) rfl ?_
    refine AOps.callro (iisInt_AF bk bv bs bks 0) rfl rfl rfl ?_
    refine Y (mv rfl) rfl ?_
    refine AOps.split 94 rfl (fun e1 => ?_) (fun e1 => ?_)
    ·
     skip
     refine AOps.on rfl rfl ?_
     refine Y (mv rfl) rfl ?_
     refine AOps.on rfl rfl ?_
     refine Y (bn rfl rfl BinR.seql rfl) rfl ?_
     refine AOps.on rfl rfl ?_
     refine Y (mv rfl) rfl ?_
     refine AOps.split 97 rfl (fun e2 => ?_) (fun e2 => ?_)
     ·
      replace e2 := of_decide_eq_true e2
      refine AOps.off' rfl rfl rfl rfl ?_
      refine AOps.off' rfl rfl rfl rfl ?_
      refine AOps.on rfl rfl ?_
      refine Y (Yields.pick_true rfl rfl) rfl ?_
      refine Y (Yields.pick_true rfl rfl) rfl ?_
      refine Y (ass rfl) rfl ?_
      refine AOps.nil ?_
      refine AWP.cond rfl (fun _ => ?_) (fun h => absurd h (by decide))
      refine AWP.skip ?_
      refine ⟨true, ?_, ?_⟩
      ·
       show true = true ↔ inR9 op (.mk bk bv bs bks)
       simp [inR9, e1, e2]
      · exact Leads.keepR (KeepR.cons 0 rfl (KeepR.cons 0 rfl (KeepR.cons 0 rfl (KeepR.cons 0 rfl KeepR.nil)))) ⟨rfl, rfl, rfl, rfl, rfl, rfl, trivial⟩
     ·
      replace e2 := of_decide_eq_false e2
      refine AOps.on rfl rfl ?_
      refine Y (mv rfl) rfl ?_
      refine AOps.on rfl rfl ?_
      refine Y (bn rfl rfl BinR.seql rfl) rfl ?_
      refine AOps.on rfl rfl ?_
      refine Y (Yields.pick_false rfl rfl) rfl ?_
      refine Y (Yields.pick_true rfl rfl) rfl ?_
      refine Y (ass rfl) rfl ?_
      refine AOps.nil ?_
      refine AWP.condT rfl (fun e3 => ?_) (fun e3 => ?_)
      ·
       replace e3 := of_decide_eq_true e3
       refine AWP.skip ?_
       refine ⟨true, ?_, ?_⟩
       ·
        show true = true ↔ inR9 op (.mk bk bv bs bks)
        simp [inR9, e1, e3]
       · exact Leads.keepR (KeepR.cons 0 rfl (KeepR.cons 0 rfl (KeepR.cons 0 rfl (KeepR.cons 0 rfl KeepR.nil)))) ⟨rfl, rfl, rfl, rfl, rfl, rfl, trivial⟩
      ·
       replace e3 := of_decide_eq_false e3
       refine AWP.region ?_
       refine Y (Yields.load_ptr_agg (j := 3) kd28 rfl rfl rfl rfl) rfl ?_
       refine AOps.callro (iisInt_AF bk bv bs bks 1) rfl rfl rfl ?_
       refine Y (mv rfl) rfl ?_
       refine AOps.split 104 rfl (fun e4 => ?_) (fun e4 => ?_)
       ·
        skip
        refine AOps.on rfl rfl ?_
        refine Y (mv rfl) rfl ?_
        refine AOps.on rfl rfl ?_
        refine Y (bn rfl rfl BinR.seql rfl) rfl ?_
        refine Y (Yields.pick_true rfl rfl) rfl ?_
        refine Y (ass rfl) rfl ?_
        refine AOps.nil ?_
        refine ⟨decide (op = oTimes), ?_, ?_⟩
        ·
         show (decide (op = oTimes)) = true ↔ inR9 op (.mk bk bv bs bks)
         simp [inR9, e1, e2, e3, e4]
        · exact Leads.keepR (KeepR.cons 0 rfl (KeepR.cons 0 rfl (KeepR.cons 0 rfl (KeepR.cons 0 rfl KeepR.nil)))) ⟨rfl, rfl, rfl, rfl, rfl, rfl, trivial⟩
       ·
        skip
        refine AOps.off' rfl rfl rfl rfl ?_
        refine AOps.off' rfl rfl rfl rfl ?_
        refine Y (Yields.pick_false rfl rfl) rfl ?_
        refine Y (ass rfl) rfl ?_
        refine AOps.nil ?_
        refine ⟨false, ?_, ?_⟩
        ·
         show false = true ↔ inR9 op (.mk bk bv bs bks)
         simp [inR9, e1, e2, e3, e4]
        · exact Leads.keepR (KeepR.cons 0 rfl (KeepR.cons 0 rfl (KeepR.cons 0 rfl (KeepR.cons 0 rfl KeepR.nil)))) ⟨rfl, rfl, rfl, rfl, rfl, rfl, trivial⟩
    ·
     skip
     refine AOps.off' rfl rfl rfl rfl ?_
     refine AOps.off' rfl rfl rfl rfl ?_
     refine AOps.off' rfl rfl rfl rfl ?_
     refine AOps.offU rfl rfl rfl ?_
     refine AOps.offU rfl rfl rfl ?_
     refine AOps.off' rfl rfl rfl rfl ?_
     refine Y (Yields.pick_false rfl rfl) rfl ?_
     refine Y (ass rfl) rfl ?_
     refine AOps.nil ?_
     refine AWP.cond rfl (fun h => absurd h (by decide)) (fun _ => ?_)
     refine AWP.region ?_
     refine Y (Yields.load_ptr_agg (j := 3) kd28 rfl rfl rfl rfl) rfl ?_
     refine AOps.callro (iisInt_AF bk bv bs bks 1) rfl rfl rfl ?_
     refine Y (mv rfl) rfl ?_
     refine AOps.split 104 rfl (fun e4 => ?_) (fun e4 => ?_)
     ·
      skip
      refine AOps.on rfl rfl ?_
      refine Y (mv rfl) rfl ?_
      refine AOps.on rfl rfl ?_
      refine Y (bn rfl rfl BinR.seql rfl) rfl ?_
      refine Y (Yields.pick_true rfl rfl) rfl ?_
      refine Y (ass rfl) rfl ?_
      refine AOps.nil ?_
      refine ⟨decide (op = oTimes), ?_, ?_⟩
      ·
       show (decide (op = oTimes)) = true ↔ inR9 op (.mk bk bv bs bks)
       simp [inR9, e1, e4]
      · exact Leads.keepR (KeepR.cons 0 rfl (KeepR.cons 0 rfl (KeepR.cons 0 rfl (KeepR.cons 0 rfl KeepR.nil)))) ⟨rfl, rfl, rfl, rfl, rfl, rfl, trivial⟩
     ·
      skip
      refine AOps.off' rfl rfl rfl rfl ?_
      refine AOps.off' rfl rfl rfl rfl ?_
      refine Y (Yields.pick_false rfl rfl) rfl ?_
      refine Y (ass rfl) rfl ?_
      refine AOps.nil ?_
      refine ⟨false, ?_, ?_⟩
      ·
       show false = true ↔ inR9 op (.mk bk bv bs bks)
       simp [inR9, e1, e4]
      · exact Leads.keepR (KeepR.cons 0 rfl (KeepR.cons 0 rfl (KeepR.cons 0 rfl (KeepR.cons 0 rfl KeepR.nil)))) ⟨rfl, rfl, rfl, rfl, rfl, rfl, trivial⟩
   ·
    rintro c9 hinv
    refine AWP.condT rfl (fun k9 => ?_) (fun k9 => ?_)
    ·
     skip
     refine AWP.seq ?_
     refine AWP.region ?_
     refine Y (Yields.load_ptr_agg (j := 2) kd28 rfl rfl rfl rfl) rfl ?_
     refine AOps.store (j := 1) kd28 rfl rfl rfl rfl rfl rfl ?_
     refine Y (ass rfl) rfl ?_
     refine AOps.nil ?_
     refine AWP.ret ⟨.inl rfl, ?_⟩
     exact RetH.of (rs := [.cell 2 28, .tmp 3]) (vs := [_, _]) rfl ⟨resOne.cell (j := 1) rfl rfl kd28 rfl rfl rfl, rfl, trivial⟩ KeepR.nil (⟨by rw [bin9 h8 (hinv.1 k9)]; rfl, rfl⟩)
    ·
     skip
     have h9 : ¬ inR9 op (.mk bk bv bs bks) := fun e => by rw [hinv.2 e] at k9; cases k9
     refine AWP.midE (α := Bool) (fun c10 : Bool => ⟨[(1, .ptr (some b1) 0 0 4), (2, .ptr (some b2) 0 0 4), (4, .ptr (some b4) 0 0 4), (5, .ptr (some b5) 0 0 4), (6, str op), (109, bool c10)], [(some b1, ⟨4, [Tr.av (.mk kd nm op [.mk ak an az aks, .mk bk bv bs bks])]⟩), (some b2, ⟨4, [zero4]⟩), (some b4, ⟨4, [Tr.av (.mk ak an az aks)]⟩), (some b5, ⟨4, [Tr.av (.mk bk bv bs bks)]⟩)]⟩) (fun c10 : Bool => c10 = true ↔ inR10 op (.mk ak an az aks)) ?_ ?_
     ·
      skip
      refine AWP.seq ?_
      refine AWP.region ?_
      refine Y (Yields.load_ptr_agg (j := 2) kd28 rfl rfl rfl rfl) rfl ?_
      refine AOps.callro (iisInt_AF ak an az aks 0) rfl rfl rfl ?_
      refine Y (mv rfl) rfl ?_
      refine AOps.split 112 rfl (fun e1 => ?_) (fun e1 => ?_)
      ·
       skip
       refine AOps.on rfl rfl ?_
       refine Y (mv rfl) rfl ?_
       refine AOps.on rfl rfl ?_
       refine Y (bn rfl rfl BinR.seql rfl) rfl ?_
       refine Y (Yields.pick_true rfl rfl) rfl ?_
       refine Y (ass rfl) rfl ?_
       refine AOps.nil ?_
       refine AWP.condT rfl (fun e2 => ?_) (fun e2 => ?_)
       ·
        replace e2 := of_decide_eq_true e2
        refine AWP.skip ?_
        refine ⟨true, ?_, ?_⟩
        ·
         show true = true ↔ inR10 op (.mk ak an az aks)
         simp [inR10, e1, e2]
        · exact Leads.keepR (KeepR.cons 0 rfl (KeepR.cons 0 rfl (KeepR.cons 0 rfl (KeepR.cons 0 rfl KeepR.nil)))) ⟨rfl, rfl, rfl, rfl, rfl, rfl, trivial⟩
       ·
        replace e2 := of_decide_eq_false e2
        refine AWP.region ?_
        refine Y (Yields.load_ptr_agg (j := 2) kd28 rfl rfl rfl rfl) rfl ?_
        refine AOps.callro (iisInt_AF ak an az aks 1) rfl rfl rfl ?_
        refine Y (mv rfl) rfl ?_
        refine AOps.split 118 rfl (fun e4 => ?_) (fun e4 => ?_)
        ·
         skip
         refine AOps.on rfl rfl ?_
         refine Y (mv rfl) rfl ?_
         refine AOps.on rfl rfl ?_
         refine Y (bn rfl rfl BinR.seql rfl) rfl ?_
         refine Y (Yields.pick_true rfl rfl) rfl ?_
         refine Y (ass rfl) rfl ?_
         refine AOps.nil ?_
         refine ⟨decide (op = oTimes), ?_, ?_⟩
         ·
          show (decide (op = oTimes)) = true ↔ inR10 op (.mk ak an az aks)
          simp [inR10, e1, e2, e4]
         · exact Leads.keepR (KeepR.cons 0 rfl (KeepR.cons 0 rfl (KeepR.cons 0 rfl (KeepR.cons 0 rfl KeepR.nil)))) ⟨rfl, rfl, rfl, rfl, rfl, rfl, trivial⟩
        ·
         skip
         refine AOps.off' rfl rfl rfl rfl ?_
         refine AOps.off' rfl rfl rfl rfl ?_
         refine Y (Yields.pick_false rfl rfl) rfl ?_
         refine Y (ass rfl) rfl ?_
         refine AOps.nil ?_
         refine ⟨false, ?_, ?_⟩
         ·
          show false = true ↔ inR10 op (.mk ak an az aks)
          simp [inR10, e1, e2, e4]
         · exact Leads.keepR (KeepR.cons 0 rfl (KeepR.cons 0 rfl (KeepR.cons 0 rfl (KeepR.cons 0 rfl KeepR.nil)))) ⟨rfl, rfl, rfl, rfl, rfl, rfl, trivial⟩
      ·
       skip
       refine AOps.off' rfl rfl rfl rfl ?_
       refine AOps.off' rfl rfl rfl rfl ?_
       refine Y (Yields.pick_false rfl rfl) rfl ?_
       refine Y (ass rfl) rfl ?_
       refine AOps.nil ?_
       refine AWP.cond rfl (fun h => absurd h (by decide)) (fun _ => ?_)
       refine AWP.region ?_
       refine Y (Yields.load_ptr_agg (j := 2) kd28 rfl rfl rfl rfl) rfl ?_
       refine AOps.callro (iisInt_AF ak an az aks 1) rfl rfl rfl ?_
       refine Y (mv rfl) rfl ?_
       refine AOps.split 118 rfl (fun e4 => ?_) (fun e4 => ?_)
       ·
        skip
        refine AOps.on rfl rfl ?_
        refine Y (mv rfl) rfl ?_
        refine AOps.on rfl rfl ?_
        refine Y (bn rfl rfl BinR.seql rfl) rfl ?_
        refine Y (Yields.pick_true rfl rfl) rfl ?_
        refine Y (ass rfl) rfl ?_
        refine AOps.nil ?_
        refine ⟨decide (op = oTimes), ?_, ?_⟩
        ·
         show (decide (op = oTimes)) = true ↔ inR10 op (.mk ak an az aks)
         simp [inR10, e1, e4]
        · exact Leads.keepR (KeepR.cons 0 rfl (KeepR.cons 0 rfl (KeepR.cons 0 rfl (KeepR.cons 0 rfl KeepR.nil)))) ⟨rfl, rfl, rfl, rfl, rfl, rfl, trivial⟩
       ·
        skip
        refine AOps.off' rfl rfl rfl rfl ?_
        refine AOps.off' rfl rfl rfl rfl ?_
        refine Y (Yields.pick_false rfl rfl) rfl ?_
        refine Y (ass rfl) rfl ?_
        refine AOps.nil ?_
        refine ⟨false, ?_, ?_⟩
        ·
         show false = true ↔ inR10 op (.mk ak an az aks)
         simp [inR10, e1, e4]
        · exact Leads.keepR (KeepR.cons 0 rfl (KeepR.cons 0 rfl (KeepR.cons 0 rfl (KeepR.cons 0 rfl KeepR.nil)))) ⟨rfl, rfl, rfl, rfl, rfl, rfl, trivial⟩
     ·
      rintro c10 hinv
      refine AWP.condT rfl (fun k10 => ?_) (fun k10 => ?_)
      ·
       skip
       refine AWP.seq ?_
       refine AWP.region ?_
       refine Y (Yields.load_ptr_agg (j := 3) kd28 rfl rfl rfl rfl) rfl ?_
       refine AOps.store (j := 1) kd28 rfl rfl rfl rfl rfl rfl ?_
       refine Y (ass rfl) rfl ?_
       refine AOps.nil ?_
       refine AWP.ret ⟨.inl rfl, ?_⟩
       exact RetH.of (rs := [.cell 2 28, .tmp 3]) (vs := [_, _]) rfl ⟨resOne.cell (j := 1) rfl rfl kd28 rfl rfl rfl, rfl, trivial⟩ KeepR.nil (⟨by rw [bin10 h8 h9 (hinv.1 k10)]; rfl, rfl⟩)
      ·
       skip
       have h10 : ¬ inR10 op (.mk ak an az aks) := fun e => by rw [hinv.2 e] at k10; cases k10
       refine AWP.midE (α := Bool) (fun c11 : Bool => ⟨[(1, .ptr (some b1) 0 0 4), (2, .ptr (some b2) 0 0 4), (4, .ptr (some b4) 0 0 4), (5, .ptr (some b5) 0 0 4), (6, str op), (123, bool c11)], [(some b1, ⟨4, [Tr.av (.mk kd nm op [.mk ak an az aks, .mk bk bv bs bks])]⟩), (some b2, ⟨4, [zero4]⟩), (some b4, ⟨4, [Tr.av (.mk ak an az aks)]⟩), (some b5, ⟨4, [Tr.av (.mk bk bv bs bks)]⟩)]⟩) (fun c11 : Bool => c11 = true ↔ inR11 op (.mk ak an az aks) (.mk bk bv bs bks)) ?_ ?_
       ·
        skip
        refine AWP.seq ?_
        refine AWP.region ?_
        refine Y (mv rfl) rfl ?_
        refine Y (bn rfl rfl BinR.seql rfl) rfl ?_
        refine Y (mv rfl) rfl ?_
        refine AOps.split 126 rfl (fun e1 => ?_) (fun e1 => ?_)
        ·
         replace e1 := of_decide_eq_true e1
         refine AOps.on rfl rfl ?_
         refine Y (Yields.load_ptr_agg (j := 3) kd28 rfl rfl rfl rfl) rfl ?_
         refine AOps.on rfl rfl ?_
         refine AOps.callro (iisBool_AF bk bv bs bks 1) rfl rfl rfl ?_
         refine AOps.on rfl rfl ?_
         refine Y (mv rfl) rfl ?_
         refine AOps.split 129 rfl (fun e2 => ?_) (fun e2 => ?_)
         ·
          skip
          refine AOps.off' rfl rfl rfl rfl ?_
          refine AOps.off' rfl rfl rfl rfl ?_
          refine AOps.on rfl rfl ?_
          refine Y (Yields.pick_true rfl rfl) rfl ?_
          refine Y (Yields.pick_true rfl rfl) rfl ?_
          refine Y (ass rfl) rfl ?_
          refine AOps.nil ?_
          refine AWP.cond rfl (fun _ => ?_) (fun h => absurd h (by decide))
          refine AWP.skip ?_
          refine ⟨true, ?_, ?_⟩
          ·
           show true = true ↔ inR11 op (.mk ak an az aks) (.mk bk bv bs bks)
           simp [inR11, e1, e2]
          · exact Leads.keepR (KeepR.cons 0 rfl (KeepR.cons 0 rfl (KeepR.cons 0 rfl (KeepR.cons 0 rfl KeepR.nil)))) ⟨rfl, rfl, rfl, rfl, rfl, rfl, trivial⟩
         ·
          skip
          refine AOps.on rfl rfl ?_
          refine Y (Yields.load_ptr_agg (j := 2) kd28 rfl rfl rfl rfl) rfl ?_
          refine AOps.on rfl rfl ?_
          refine AOps.callro (iisBool_AF ak an az aks 0) rfl rfl rfl ?_
          refine AOps.on rfl rfl ?_
          refine Y (Yields.pick_false rfl rfl) rfl ?_
          refine Y (Yields.pick_true rfl rfl) rfl ?_
          refine Y (ass rfl) rfl ?_
          refine AOps.nil ?_
          refine AWP.condT rfl (fun e3 => ?_) (fun e3 => ?_)
          ·
           skip
           refine AWP.skip ?_
           refine ⟨true, ?_, ?_⟩
           ·
            show true = true ↔ inR11 op (.mk ak an az aks) (.mk bk bv bs bks)
            simp [inR11, e1, e3]
           · exact Leads.keepR (KeepR.cons 0 rfl (KeepR.cons 0 rfl (KeepR.cons 0 rfl (KeepR.cons 0 rfl KeepR.nil)))) ⟨rfl, rfl, rfl, rfl, rfl, rfl, trivial⟩
          ·
           skip
           refine AWP.region ?_
           refine Y (mv rfl) rfl ?_
           refine Y (bn rfl rfl BinR.seql rfl) rfl ?_
           refine Y (mv rfl) rfl ?_
           refine AOps.split 136 rfl (fun e4 => ?_) (fun e4 => ?_)
           ·
            replace e4 := of_decide_eq_true e4
            rw [e1] at e4; exact absurd e4 (by decide)
           ·
            replace e4 := of_decide_eq_false e4
            refine AOps.off' rfl rfl rfl rfl ?_
            refine AOps.off' rfl rfl rfl rfl ?_
            refine AOps.off' rfl rfl rfl rfl ?_
            refine AOps.offU rfl rfl rfl ?_
            refine AOps.offU rfl rfl rfl ?_
            refine AOps.off' rfl rfl rfl rfl ?_
            refine Y (Yields.pick_false rfl rfl) rfl ?_
            refine Y (ass rfl) rfl ?_
            refine AOps.nil ?_
            refine ⟨false, ?_, ?_⟩
            ·
             show false = true ↔ inR11 op (.mk ak an az aks) (.mk bk bv bs bks)
             simp [inR11, e1, e2, e3, e4]
            · exact Leads.keepR (KeepR.cons 0 rfl (KeepR.cons 0 rfl (KeepR.cons 0 rfl (KeepR.cons 0 rfl KeepR.nil)))) ⟨rfl, rfl, rfl, rfl, rfl, rfl, trivial⟩
        ·
         replace e1 := of_decide_eq_false e1
         refine AOps.off' rfl rfl rfl rfl ?_
         refine AOps.off' rfl rfl rfl rfl ?_
         refine AOps.off' rfl rfl rfl rfl ?_
         refine AOps.offU rfl rfl rfl ?_
         refine AOps.offU rfl rfl rfl ?_
         refine AOps.off' rfl rfl rfl rfl ?_
         refine Y (Yields.pick_false rfl rfl) rfl ?_
         refine Y (ass rfl) rfl ?_
         refine AOps.nil ?_
         refine AWP.cond rfl (fun h => absurd h (by decide)) (fun _ => ?_)
         refine AWP.region ?_
         refine Y (mv rfl) rfl ?_
         refine Y (bn rfl rfl BinR.seql rfl) rfl ?_
         refine Y (mv rfl) rfl ?_
         refine AOps.split 136 rfl (fun e4 => ?_) (fun e4 => ?_)
         ·
          replace e4 := of_decide_eq_true e4
          refine AOps.on rfl rfl ?_
          refine Y (Yields.load_ptr_agg (j := 3) kd28 rfl rfl rfl rfl) rfl ?_
          refine AOps.on rfl rfl ?_
          refine AOps.callro (iisBool_AF bk bv bs bks 0) rfl rfl rfl ?_
          refine AOps.on rfl rfl ?_
          refine Y (mv rfl) rfl ?_
          refine AOps.split 139 rfl (fun e5 => ?_) (fun e5 => ?_)
          ·
           skip
           refine AOps.off' rfl rfl rfl rfl ?_
           refine AOps.off' rfl rfl rfl rfl ?_
           refine AOps.on rfl rfl ?_
           refine Y (Yields.pick_true rfl rfl) rfl ?_
           refine Y (Yields.pick_true rfl rfl) rfl ?_
           refine Y (ass rfl) rfl ?_
           refine AOps.nil ?_
           refine ⟨true, ?_, ?_⟩
           ·
            show true = true ↔ inR11 op (.mk ak an az aks) (.mk bk bv bs bks)
            simp [inR11, e1, e4, e5]
           · exact Leads.keepR (KeepR.cons 0 rfl (KeepR.cons 0 rfl (KeepR.cons 0 rfl (KeepR.cons 0 rfl KeepR.nil)))) ⟨rfl, rfl, rfl, rfl, rfl, rfl, trivial⟩
          ·
           skip
           refine AOps.on rfl rfl ?_
           refine Y (Yields.load_ptr_agg (j := 2) kd28 rfl rfl rfl rfl) rfl ?_
           refine AOps.on rfl rfl ?_
           refine AOps.callro (iisBool_AF ak an az aks 1) rfl rfl rfl ?_
           refine AOps.on rfl rfl ?_
           refine Y (Yields.pick_false rfl rfl) rfl ?_
           refine Y (Yields.pick_true rfl rfl) rfl ?_
           refine Y (ass rfl) rfl ?_
           refine AOps.nil ?_
           refine ⟨isB (.mk ak an az aks) 1, ?_, ?_⟩
           ·
            show (isB (.mk ak an az aks) 1) = true ↔ inR11 op (.mk ak an az aks) (.mk bk bv bs bks)
            simp [inR11, e1, e4, e5]
           · exact Leads.keepR (KeepR.cons 0 rfl (KeepR.cons 0 rfl (KeepR.cons 0 rfl (KeepR.cons 0 rfl KeepR.nil)))) ⟨rfl, rfl, rfl, rfl, rfl, rfl, trivial⟩
         ·
          replace e4 := of_decide_eq_false e4
          refine AOps.off' rfl rfl rfl rfl ?_
          refine AOps.off' rfl rfl rfl rfl ?_
          refine AOps.off' rfl rfl rfl rfl ?_
          refine AOps.offU rfl rfl rfl ?_
          refine AOps.offU rfl rfl rfl ?_
          refine AOps.off' rfl rfl rfl rfl ?_
          refine Y (Yields.pick_false rfl rfl) rfl ?_
          refine Y (ass rfl) rfl ?_
          refine AOps.nil ?_
          refine ⟨false, ?_, ?_⟩
          ·
           show false = true ↔ inR11 op (.mk ak an az aks) (.mk bk bv bs bks)
           simp [inR11, e1, e4]
          · exact Leads.keepR (KeepR.cons 0 rfl (KeepR.cons 0 rfl (KeepR.cons 0 rfl (KeepR.cons 0 rfl KeepR.nil)))) ⟨rfl, rfl, rfl, rfl, rfl, rfl, trivial⟩
       ·
        rintro c11 hinv
        refine AWP.condT rfl (fun k11 => ?_) (fun k11 => ?_)
        ·
         skip
         refine AWP.seq ?_
         refine AWP.region ?_
         refine Y (Yields.load_ptr_agg (j := 2) kd28 rfl rfl rfl rfl) rfl ?_
         refine AOps.store (j := 1) kd28 rfl rfl rfl rfl rfl rfl ?_
         refine Y (ass rfl) rfl ?_
         refine AOps.nil ?_
         refine AWP.ret ⟨.inl rfl, ?_⟩
         exact RetH.of (rs := [.cell 2 28, .tmp 3]) (vs := [_, _]) rfl ⟨resOne.cell (j := 1) rfl rfl kd28 rfl rfl rfl, rfl, trivial⟩ KeepR.nil (⟨by rw [bin11 h8 h9 h10 (hinv.1 k11)]; rfl, rfl⟩)
        ·
         skip
         have h11 : ¬ inR11 op (.mk ak an az aks) (.mk bk bv bs bks) := fun e => by rw [hinv.2 e] at k11; cases k11
         refine AWP.midE (α := Bool) (fun c12 : Bool => ⟨[(1, .ptr (some b1) 0 0 4), (2, .ptr (some b2) 0 0 4), (4, .ptr (some b4) 0 0 4), (5, .ptr (some b5) 0 0 4), (6, str op), (145, bool c12)], [(some b1, ⟨4, [Tr.av (.mk kd nm op [.mk ak an az aks, .mk bk bv bs bks])]⟩), (some b2, ⟨4, [zero4]⟩), (some b4, ⟨4, [Tr.av (.mk ak an az aks)]⟩), (some b5, ⟨4, [Tr.av (.mk bk bv bs bks)]⟩)]⟩) (fun c12 : Bool => c12 = true ↔ inR12 op (.mk ak an az aks)) ?_ ?_
         ·
          skip
          refine AWP.seq ?_
          refine AWP.region ?_
          refine Y (mv rfl) rfl ?_
          refine Y (bn rfl rfl BinR.seql rfl) rfl ?_
          refine Y (mv rfl) rfl ?_
          refine AOps.split 148 rfl (fun e1 => ?_) (fun e1 => ?_)
          ·
           replace e1 := of_decide_eq_true e1
           refine AOps.on rfl rfl ?_
           refine Y (Yields.load_ptr_agg (j := 2) kd28 rfl rfl rfl rfl) rfl ?_
           refine AOps.on rfl rfl ?_
           refine AOps.callro (iisBool_AF ak an az aks 1) rfl rfl rfl ?_
           refine Y (Yields.pick_true rfl rfl) rfl ?_
           refine Y (ass rfl) rfl ?_
           refine AOps.nil ?_
           refine AWP.condT rfl (fun e2 => ?_) (fun e2 => ?_)
           ·
            skip
            refine AWP.skip ?_
            refine ⟨true, ?_, ?_⟩
            ·
             show true = true ↔ inR12 op (.mk ak an az aks)
             simp [inR12, e1, e2]
            · exact Leads.keepR (KeepR.cons 0 rfl (KeepR.cons 0 rfl (KeepR.cons 0 rfl (KeepR.cons 0 rfl KeepR.nil)))) ⟨rfl, rfl, rfl, rfl, rfl, rfl, trivial⟩
           ·
            skip
            refine AWP.region ?_
            refine Y (mv rfl) rfl ?_
            refine Y (bn rfl rfl BinR.seql rfl) rfl ?_
            refine Y (mv rfl) rfl ?_
            refine AOps.split 154 rfl (fun e4 => ?_) (fun e4 => ?_)
            ·
             replace e4 := of_decide_eq_true e4
             rw [e1] at e4; exact absurd e4 (by decide)
            ·
             replace e4 := of_decide_eq_false e4
             refine AOps.off' rfl rfl rfl rfl ?_
             refine AOps.off' rfl rfl rfl rfl ?_
             refine Y (Yields.pick_false rfl rfl) rfl ?_
             refine Y (ass rfl) rfl ?_
             refine AOps.nil ?_
             refine ⟨false, ?_, ?_⟩
             ·
              show false = true ↔ inR12 op (.mk ak an az aks)
              simp [inR12, e1, e2, e4]
             · exact Leads.keepR (KeepR.cons 0 rfl (KeepR.cons 0 rfl (KeepR.cons 0 rfl (KeepR.cons 0 rfl KeepR.nil)))) ⟨rfl, rfl, rfl, rfl, rfl, rfl, trivial⟩
          ·
           replace e1 := of_decide_eq_false e1
           refine AOps.off' rfl rfl rfl rfl ?_
           refine AOps.off' rfl rfl rfl rfl ?_
           refine Y (Yields.pick_false rfl rfl) rfl ?_
           refine Y (ass rfl) rfl ?_
           refine AOps.nil ?_
           refine AWP.cond rfl (fun h => absurd h (by decide)) (fun _ => ?_)
           refine AWP.region ?_
           refine Y (mv rfl) rfl ?_
           refine Y (bn rfl rfl BinR.seql rfl) rfl ?_
           refine Y (mv rfl) rfl ?_
           refine AOps.split 154 rfl (fun e4 => ?_) (fun e4 => ?_)
           ·
            replace e4 := of_decide_eq_true e4
            refine AOps.on rfl rfl ?_
            refine Y (Yields.load_ptr_agg (j := 2) kd28 rfl rfl rfl rfl) rfl ?_
            refine AOps.on rfl rfl ?_
            refine AOps.callro (iisBool_AF ak an az aks 0) rfl rfl rfl ?_
            refine Y (Yields.pick_true rfl rfl) rfl ?_
            refine Y (ass rfl) rfl ?_
            refine AOps.nil ?_
            refine ⟨isB (.mk ak an az aks) 0, ?_, ?_⟩
            ·
             show (isB (.mk ak an az aks) 0) = true ↔ inR12 op (.mk ak an az aks)
             simp [inR12, e1, e4]
            · exact Leads.keepR (KeepR.cons 0 rfl (KeepR.cons 0 rfl (KeepR.cons 0 rfl (KeepR.cons 0 rfl KeepR.nil)))) ⟨rfl, rfl, rfl, rfl, rfl, rfl, trivial⟩
           ·
            replace e4 := of_decide_eq_false e4
            refine AOps.off' rfl rfl rfl rfl ?_
            refine AOps.off' rfl rfl rfl rfl ?_
            refine Y (Yields.pick_false rfl rfl) rfl ?_
            refine Y (ass rfl) rfl ?_
            refine AOps.nil ?_
            refine ⟨false, ?_, ?_⟩
            ·
             show false = true ↔ inR12 op (.mk ak an az aks)
             simp [inR12, e1, e4]
            · exact Leads.keepR (KeepR.cons 0 rfl (KeepR.cons 0 rfl (KeepR.cons 0 rfl (KeepR.cons 0 rfl KeepR.nil)))) ⟨rfl, rfl, rfl, rfl, rfl, rfl, trivial⟩
         ·
          rintro c12 hinv
          refine AWP.condT rfl (fun k12 => ?_) (fun k12 => ?_)
          ·
           skip
           refine AWP.seq ?_
           refine AWP.region ?_
           refine Y (Yields.load_ptr_agg (j := 3) kd28 rfl rfl rfl rfl) rfl ?_
           refine AOps.store (j := 1) kd28 rfl rfl rfl rfl rfl rfl ?_
           refine Y (ass rfl) rfl ?_
           refine AOps.nil ?_
           refine AWP.ret ⟨.inl rfl, ?_⟩
           exact RetH.of (rs := [.cell 2 28, .tmp 3]) (vs := [_, _]) rfl ⟨resOne.cell (j := 1) rfl rfl kd28 rfl rfl rfl, rfl, trivial⟩ KeepR.nil (⟨by rw [bin12 h8 h9 h10 h11 (hinv.1 k12)]; rfl, rfl⟩)
          ·
           skip
           refine AWP.skip ?_
           refine AWP.seq ?_
           refine AWP.region ?_
           refine Y (Yields.load_ptr_agg (j := 0) kd28 rfl rfl rfl rfl) rfl ?_
           refine AOps.store (j := 1) kd28 rfl rfl rfl rfl rfl rfl ?_
           refine Y (ass rfl) rfl ?_
           refine AOps.nil ?_
           refine AWP.ret ⟨.inl rfl, ?_⟩
           exact RetH.of (rs := [.cell 2 28, .tmp 3]) (vs := [_, _]) rfl ⟨resOne.cell (j := 1) rfl rfl kd28 rfl rfl rfl, rfl, trivial⟩ KeepR.nil (⟨by rw [bin0 h8 h9 h10 h11 (fun e => by rw [hinv.2 e] at k12; cases k12)]; rfl, rfl⟩)
end Go.Proofs.YtccdgppplkfjfaaGreat
