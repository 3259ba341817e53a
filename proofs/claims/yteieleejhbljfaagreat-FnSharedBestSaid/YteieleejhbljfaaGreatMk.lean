/- The draw of expressions: a small program. -/
import Derived.Test.YteieleejhbljfaaGreatVal
import Derived.Test.YteieleejhbljfaaGreatCalls
namespace Go.Proofs.YteieleejhbljfaaGreat
open Go Go.Ax Go.Proofs
set_option linter.unusedVariables false
set_option linter.unusedSimpArgs false
set_option maxRecDepth 20000
def isV (v : AV) : AV → Hp → Prop := fun r hp' => r = v ∧ hp' = []
theorem isV.fz {v r : AV} {hp' : Hp} (hv : plainV v = true) (h : isV v r hp') : Fz hp' r v := by
  obtain ⟨rfl, rfl⟩ := h
  exact (Bor.refl hv).fz
def nameTr (s : ByteArray) : Tr := .mk 3 0 s []
theorem nameOf_AF (s : ByteArray) : Fn 90 [str s] (nameTr s).av := by
  refine AH.toF (by simp [plainL, plainV]) (post := isV (nameTr s).av) ?_ (fun r hp' h => isV.fz rfl h)
  refine AH.intro Tryz.func90 nm90 rfl rfl rfl fun w0 ok0 own0 => ?_
  refine AWP.seq ?_
  refine AWP.region ?_
  refine AOps.alloc rfl z25 rfl rfl fun b2 => ?_
  refine AOps.nil ?_
  refine AWP.seq ?_
  refine AWP.region ?_
  refine Y (mv rfl) rfl ?_
  refine Y (Yields.build pl25 z25 rfl rfl) rfl ?_
  refine AOps.store (j := 0) kd25 rfl rfl rfl rfl rfl rfl ?_
  refine AOps.nil ?_
  refine AWP.leads (Leads.rowWk 0 0 rfl rfl (wk_leaf _ _ _)) ?_
  refine AWP.ret ⟨.inl rfl, ?_⟩
  exact RetH.of (rs := [.cell 2 25]) (vs := [_]) rfl ⟨resOne.cell (j := 0) rfl rfl kd25 rfl rfl rfl, trivial⟩ KeepR.nil (⟨rfl, rfl⟩)
theorem named_AF (s : ByteArray) (v w : Tr) : Fn 91 [str s, v.av, w.av] (Tr.av (.mk 11 0 s [v, w])) := by
  obtain ⟨vk, vn, vt, vks⟩ := v
  obtain ⟨wk, wn, wt, wks⟩ := w
  refine AH.toF (by simp [plainL, plainV, Tr.plain_av]) (post := isV (Tr.av (.mk 11 0 s [.mk vk vn vt vks, .mk wk wn wt wks]))) ?_ (fun r hp' h => isV.fz rfl h)
  refine AH.intro Tryz.func91 nm91 rfl rfl rfl fun w0 ok0 own0 => ?_
  refine AWP.seq ?_
  refine AWP.region ?_
  refine AOps.box rfl rfl rfl rfl fun b4 => ?_
  refine AOps.box rfl rfl rfl rfl fun b5 => ?_
  refine AOps.alloc rfl z25 rfl rfl fun b6 => ?_
  refine AOps.nil ?_
  refine AWP.seq ?_
  refine AWP.region ?_
  refine Y (mv rfl) rfl ?_
  refine Y (Yields.load_ptr_agg (j := 2) kd25 rfl rfl rfl rfl) rfl ?_
  refine Y (Yields.load_ptr_agg (j := 1) kd25 rfl rfl rfl rfl) rfl ?_
  refine AOps.step (DStep.buildRo sl23 z25 rfl rfl rfl rfl) rfl ?_
  refine Y (Yields.build pl25 z25 rfl rfl) rfl ?_
  refine AOps.store (j := 0) kd25 rfl rfl rfl rfl rfl rfl ?_
  refine AOps.nil ?_
  refine AWP.ret ⟨.inl rfl, ?_⟩
  exact RetH.of (rs := [.cell 6 25]) (vs := [_]) rfl ⟨resOne.cell (j := 0) rfl rfl kd25 rfl rfl rfl, trivial⟩ KeepR.nil (⟨rfl, rfl⟩)
def tInt : ByteArray := ⟨#[105, 110, 116]⟩
def bindV (n t : ByteArray) : AV := .agg [str n, str t]
def fTr : Tr := .mk 9 0 ⟨#[43]⟩ [nameTr ⟨#[120]⟩, nameTr ⟨#[120]⟩]
def gTr : Tr := .mk 11 0 ⟨#[122]⟩ [.mk 4 0 ⟨#[102]⟩ [nameTr ⟨#[121]⟩], .mk 9 0 ⟨#[42]⟩ [nameTr ⟨#[122]⟩, nameTr ⟨#[122]⟩]]
abbrev Binds := List (ByteArray × ByteArray)
def bindsV (l : Binds) : List AV := l.map fun x => bindV x.1 x.2
theorem bindsV_length (l : Binds) : (bindsV l).length = l.length := by simp [bindsV]
theorem bindsV_at {l : Binds} {i : Nat} {x : ByteArray × ByteArray} (h : l[i]? = some x) : (bindsV l)[i]? = some (bindV x.1 x.2) := by simp [bindsV, h]
structure DeclR where
  k : Int
  n : ByteArray
  bs : Binds
  t : ByteArray
  bk : Int
  bn : Int
  bt : ByteArray
  bks : List Tr
def declR (d : DeclR) : AV := .agg [int d.k, str d.n, .ro 2 (bindsV d.bs) [] false, str d.t, int d.bk, int d.bn, str d.bt, .ro 4 (Tr.avs d.bks) [] false]
def dF : DeclR := ⟨0, ⟨#[102]⟩, [(⟨#[120]⟩, tInt)], tInt, 9, 0, ⟨#[43]⟩, [nameTr ⟨#[120]⟩, nameTr ⟨#[120]⟩]⟩
def dG : DeclR := ⟨0, ⟨#[103]⟩, [(⟨#[121]⟩, tInt)], tInt, 11, 0, ⟨#[122]⟩, [.mk 4 0 ⟨#[102]⟩ [nameTr ⟨#[121]⟩], .mk 9 0 ⟨#[42]⟩ [nameTr ⟨#[122]⟩, nameTr ⟨#[122]⟩]]⟩
def declsL : List DeclR := [dF, dG]
def declsV (l : List DeclR) : List AV := l.map declR
theorem declsV_length (l : List DeclR) : (declsV l).length = l.length := by simp [declsV]
theorem declsV_at {l : List DeclR} {i : Nat} {x : DeclR} (h : l[i]? = some x) : (declsV l)[i]? = some (declR x) := by simp [declsV, h]
def moduleV : AV := .agg [str ⟨#[111, 110, 101]⟩, .val (.slice none 0 0), .ro 8 (declsV declsL) [] false]
def progV : AV := .ro 3 [moduleV] [] false
theorem small_AF : Fn 56 [] progV := by
  refine AH.toF rfl (post := isV progV) ?_ (fun r hp' h => isV.fz rfl h)
  refine AH.intro Tryz.func56 nm56 rfl rfl rfl fun w0 ok0 own0 => ?_
  refine AWP.seq ?_
  refine AWP.region ?_
  refine Y (ass rfl) rfl ?_
  refine AOps.nil ?_
  refine AWP.seq ?_
  refine AWP.region ?_
  refine AOps.callro (nameOf_AF ⟨#[120]⟩) rfl rfl rfl ?_
  refine AOps.callro (nameOf_AF ⟨#[120]⟩) rfl rfl rfl ?_
  refine AOps.step (DStep.buildRo sl23 z25 rfl rfl rfl rfl) rfl ?_
  refine Y (Yields.build pl25 z25 rfl rfl) rfl ?_
  refine AOps.alloc rfl z25 rfl rfl fun b1 => ?_
  refine AOps.store (j := 0) kd25 rfl rfl rfl rfl rfl rfl ?_
  refine AOps.nil ?_
  refine AWP.seq ?_
  refine AWP.region ?_
  refine AOps.callro (nameOf_AF ⟨#[121]⟩) rfl rfl rfl ?_
  refine AOps.step (DStep.buildRo sl23 z25 rfl rfl rfl rfl) rfl ?_
  refine Y (Yields.build pl25 z25 rfl rfl) rfl ?_
  refine AOps.alloc rfl z25 rfl rfl fun b2 => ?_
  refine AOps.store (j := 0) kd25 rfl rfl rfl rfl rfl rfl ?_
  refine AOps.nil ?_
  refine AWP.seq ?_
  refine AWP.prune (tm' := [(0, _), (1, _), (2, _)]) ⟨rfl, rfl, rfl, trivial⟩ ?_
  refine AWP.drawn mixed rfl rfl ?_
  refine D (tm' := []) trivial (DStep.yields (Yields.build pl89 z89 rfl rfl)) rfl ?_
  refine D (tm' := [(10, _)]) ⟨rfl, trivial⟩ (DStep.buildRo sl82 z89 rfl rfl rfl rfl) rfl ?_
  refine D (tm' := [(1, _)]) ⟨rfl, trivial⟩ (DStep.yields (Yields.load_ptr_agg (j := 1) kd25 rfl rfl rfl rfl)) rfl ?_
  refine D (tm' := [(11, _), (12, _)]) ⟨rfl, rfl, trivial⟩ (DStep.yields (Yields.build pl84 z84 rfl rfl)) rfl ?_
  refine D (tm' := []) trivial (DStep.yields (Yields.build pl89 z89 rfl rfl)) rfl ?_
  refine D (tm' := [(14, _)]) ⟨rfl, trivial⟩ (DStep.buildRo sl82 z89 rfl rfl rfl rfl) rfl ?_
  refine D (tm' := [(2, _)]) ⟨rfl, trivial⟩ (DStep.yields (Yields.load_ptr_agg (j := 0) kd25 rfl rfl rfl rfl)) rfl ?_
  refine D (tm' := []) trivial (DStep.callro (nameOf_AF ⟨#[122]⟩) rfl rfl) rfl ?_
  refine D (tm' := []) trivial (DStep.callro (nameOf_AF ⟨#[122]⟩) rfl rfl) rfl ?_
  refine D (tm' := [(17, _), (18, _)]) ⟨rfl, rfl, trivial⟩ (DStep.buildRo sl23 z25 rfl rfl rfl rfl) rfl ?_
  refine D (tm' := [(19, _)]) ⟨rfl, trivial⟩ (DStep.yields (Yields.build pl25 z25 rfl rfl)) rfl ?_
  refine D (tm' := [(16, _), (20, _)]) ⟨rfl, rfl, trivial⟩ (DStep.callro (named_AF ⟨#[122]⟩ (.mk 4 0 ⟨#[102]⟩ [nameTr ⟨#[121]⟩]) (.mk 9 0 ⟨#[42]⟩ [nameTr ⟨#[122]⟩, nameTr ⟨#[122]⟩])) rfl rfl) rfl ?_
  refine D (tm' := [(15, _), (21, _)]) ⟨rfl, rfl, trivial⟩ (DStep.yields (Yields.build pl84 z84 rfl rfl)) rfl ?_
  refine D (tm' := [(13, _), (22, _)]) ⟨rfl, rfl, trivial⟩ (DStep.buildRo sl71 z84 rfl rfl rfl rfl) rfl ?_
  refine D (tm' := [(23, _)]) ⟨rfl, trivial⟩ (DStep.yields (Yields.build pl73 z73 rfl rfl)) rfl ?_
  refine D (tm' := [(24, _)]) ⟨rfl, trivial⟩ (DStep.buildRo sl48 z73 rfl rfl rfl rfl) rfl ?_
  refine D (tm' := [(25, _)]) ⟨rfl, trivial⟩ (DStep.yields (ass rfl)) rfl ?_
  refine DOps.nil ?_
  refine AWP.ret ⟨.inl rfl, ?_⟩
  exact RetH.of (rs := [.tmp 0]) (vs := [_]) rfl ⟨rfl, trivial⟩ KeepR.nil (⟨rfl, rfl⟩)
def shortL (l : List ByteArray) : Prop := ∀ s ∈ l, s.size ≤ 24
def someL (n : Nat) : AV → Hp → Prop := fun r hp' => ∃ (B : Option Nat) (l : List ByteArray), l.length ≤ n ∧ shortL l ∧ r = .loc B 0 l.length l.length 1 ∧ hp' = [(B, ⟨1, strs l⟩)]
theorem having_AH (bs : Binds) (t : ByteArray) (hl : bs.length ≤ 1000) (hs : ∀ x ∈ bs, x.1.size ≤ 24) : FnH 97 [] [.ro 2 (bindsV bs) [] false, str t] (someL bs.length) := by
  have hlb := bindsV_length bs
  refine AH.intro Tryz.func97 nm97 rfl rfl rfl fun w0 ok0 own0 => ?_
  refine AWP.seq ?_
  refine AWP.region ?_
  refine Y (ass rfl) rfl ?_
  refine AOps.nil ?_
  refine AWP.seq ?_
  refine AWP.region ?_
  refine AOps.buildSlice sl27 z9 rfl rfl rfl rfl rfl fun b0 => ?_
  refine Y (ass rfl) rfl ?_
  refine AOps.nil ?_
  refine AWP.seq ?_
  refine AWP.seq ?_
  refine AWP.region ?_
  refine Y (ass rfl) rfl ?_
  refine AOps.nil ?_
  refine AWP.block ?_
  refine AWP.loopV (α := Option Nat × List ByteArray × Nat) (fun pp : Option Nat × List ByteArray × Nat => match pp with | (B, l, i) => ⟨[(0, .ro 2 (bindsV bs) [] false), (1, str t), (5, .loc B 0 l.length l.length 1), (6, int i)], [(B, ⟨1, strs l⟩)]⟩) (fun pp : Option Nat × List ByteArray × Nat => match pp with | (B, l, i) => i ≤ bs.length ∧ l.length ≤ i ∧ shortL l) (fun pp : Option Nat × List ByteArray × Nat => match pp with | (B, l, i) => bs.length - i) ((some b0, [], 0)) ?_ ?_ ?_
  · exact Leads.keepR (KeepR.cons 0 rfl KeepR.nil) ⟨rfl, rfl, rfl, rfl, trivial⟩
  ·
   show 0 ≤ bs.length ∧ ([]).length ≤ 0 ∧ shortL ([])
   exact ⟨Nat.zero_le _, Nat.zero_le _, fun s hs => by simp at hs⟩
  ·
   rintro ⟨B, l, i⟩ hinv
   replace hinv : i ≤ bs.length ∧ l.length ≤ i ∧ shortL l := hinv
   show AWP _ _ _ _ ⟨[(0, .ro 2 (bindsV bs) [] false), (1, str t), (5, .loc B 0 l.length l.length 1), (6, int i)], [(B, ⟨1, strs l⟩)]⟩
   refine AWP.seq ?_
   refine AWP.seq ?_
   refine AWP.region ?_
   obtain ⟨hi, hl1, hls⟩ := hinv
   refine Y (mv rfl) rfl ?_
   refine Y (mv rfl) rfl ?_
   refine Y (Yields.len_ro sl82 rfl) rfl ?_
   refine Y (bn rfl rfl BinR.lss rfl) rfl ?_
   refine AOps.nil ?_
   refine AWP.condT rfl (fun g => ?_) (fun g => ?_)
   ·
    replace g := of_decide_eq_true g
    obtain ⟨x, hx, hdx⟩ := drop_at (l := bs) (i := i) (by omega)
    refine AWP.skip ?_
    refine AWP.seq ?_
    refine AWP.block ?_
    refine AWP.seq ?_
    refine AWP.region ?_
    refine Y (ass rfl) rfl ?_
    refine AOps.nil ?_
    refine AWP.seq ?_
    refine AWP.seq ?_
    refine AWP.region ?_
    refine Y (mv rfl) rfl ?_
    refine Y (bn rfl rfl (BinR.addI (by omega) (by omega)) rfl) rfl ?_
    refine Y (ass rfl) rfl ?_
    refine AOps.nil ?_
    refine AWP.block ?_
    refine AWP.loopV (α := Bool × Nat) (fun pp : Bool × Nat => match pp with | (h, k) => ⟨[(0, .ro 2 (bindsV bs) [] false), (1, str t), (5, .loc B 0 l.length l.length 1), (6, int i), (7, bool h), (8, int k)], [(B, ⟨1, strs l⟩)]⟩) (fun pp : Bool × Nat => match pp with | (h, k) => k ≤ bs.length) (fun pp : Bool × Nat => match pp with | (h, k) => bs.length - k) ((false, i + 1)) ?_ ?_ ?_
    · exact Leads.keepR (KeepR.cons 0 rfl KeepR.nil) ⟨rfl, rfl, rfl, rfl, rfl, rfl, trivial⟩
    ·
     show (i + 1) ≤ bs.length
     show i + 1 ≤ bs.length; omega
    ·
     rintro ⟨h, k⟩ hinv
     replace hinv : k ≤ bs.length := hinv
     show AWP _ _ _ _ ⟨[(0, .ro 2 (bindsV bs) [] false), (1, str t), (5, .loc B 0 l.length l.length 1), (6, int i), (7, bool h), (8, int k)], [(B, ⟨1, strs l⟩)]⟩
     refine AWP.seq ?_
     refine AWP.seq ?_
     refine AWP.region ?_
     have hk := hinv
     refine Y (mv rfl) rfl ?_
     refine Y (mv rfl) rfl ?_
     refine Y (Yields.len_ro sl82 rfl) rfl ?_
     refine Y (bn rfl rfl BinR.lss rfl) rfl ?_
     refine AOps.nil ?_
     refine AWP.condT rfl (fun g2 => ?_) (fun g2 => ?_)
     ·
      replace g2 := of_decide_eq_true g2
      obtain ⟨y, hy, hdy⟩ := drop_at (l := bs) (i := k) (by omega)
      refine AWP.skip ?_
      refine AWP.seq ?_
      refine AWP.block ?_
      refine AWP.prune (tm' := [(0, _), (1, _), (5, _), (6, _), (7, _), (8, _), (21, _)]) ⟨rfl, rfl, rfl, rfl, rfl, rfl, rfl, trivial⟩ ?_
      refine AWP.drawn mixed rfl rfl ?_
      refine D (tm' := [(7, _)]) ⟨rfl, trivial⟩ (DStep.yields (mv rfl)) rfl ?_
      refine D (tm' := [(24, _)]) ⟨rfl, trivial⟩ (DStep.yields (mv rfl)) rfl ?_
      refine DOps.split 1 rfl (fun c1 => ?_) (fun c1 => ?_)
      ·
       skip
       refine DOps.off rfl rfl rfl rfl ?_
       refine DOps.off rfl rfl rfl rfl ?_
       refine DOps.off rfl rfl rfl rfl ?_
       refine DOps.off rfl rfl rfl rfl ?_
       refine DOps.off rfl rfl rfl rfl ?_
       refine DOps.off rfl rfl rfl rfl ?_
       refine DOps.off rfl rfl rfl rfl ?_
       refine DOps.off rfl rfl rfl rfl ?_
       refine DOps.off rfl rfl rfl rfl ?_
       refine DOps.off rfl rfl rfl rfl ?_
       refine DOps.off rfl rfl rfl rfl ?_
       refine D (tm' := [(25, _), (36, _)]) ⟨rfl, rfl, trivial⟩ (DStep.yields (Yields.pick_true rfl rfl)) rfl ?_
       refine D (tm' := [(37, _)]) ⟨rfl, trivial⟩ (DStep.yields (ass rfl)) rfl ?_
       refine DOps.nil ?_
       refine AWP.region ?_
       refine Y (mv rfl) rfl ?_
       refine Y (bn rfl rfl (BinR.addI (by omega) (by omega)) rfl) rfl ?_
       refine Y (ass rfl) rfl ?_
       refine AOps.nil ?_
       refine ⟨(true, k + 1), ?_, ?_, ?_⟩
       ·
        show bs.length - (k + 1) < bs.length - k
        omega
       ·
        show (k + 1) ≤ bs.length
        show k + 1 ≤ bs.length; omega
       · exact Leads.keepR (KeepR.cons 0 rfl KeepR.nil) ⟨rfl, rfl, rfl, rfl, rfl, rfl, trivial⟩
      ·
       skip
       refine DOps.on rfl rfl ?_
       refine D (tm' := [(0, _)]) ⟨rfl, trivial⟩ (DStep.yields (mv rfl)) rfl ?_
       refine DOps.on rfl rfl ?_
       refine D (tm' := [(8, _)]) ⟨rfl, trivial⟩ (DStep.yields (mv rfl)) rfl ?_
       refine DOps.on rfl rfl ?_
       refine D (tm' := [(26, _), (27, _)]) ⟨rfl, rfl, trivial⟩ (DStep.yields (Yields.idx_roN sl82 rfl rfl rfl rfl (by omega))) rfl ?_
       refine DOps.on rfl rfl ?_
       refine D (tm' := [(28, _)]) ⟨rfl, trivial⟩ (DStep.yields (Yields.fieldAddr_rop fo89_0 rfl)) rfl ?_
       refine DOps.on rfl rfl ?_
       refine D (tm' := [(29, _)]) ⟨rfl, trivial⟩ (DStep.yields (Yields.load_rop_field kd9 rfl rfl (bindsV_at hy) rfl rfl)) rfl ?_
       refine DOps.on rfl rfl ?_
       refine D (tm' := [(0, _)]) ⟨rfl, trivial⟩ (DStep.yields (mv rfl)) rfl ?_
       refine DOps.on rfl rfl ?_
       refine D (tm' := [(6, _)]) ⟨rfl, trivial⟩ (DStep.yields (mv rfl)) rfl ?_
       refine DOps.on rfl rfl ?_
       refine D (tm' := [(31, _), (32, _)]) ⟨rfl, rfl, trivial⟩ (DStep.yields (Yields.idx_roN sl82 rfl rfl rfl rfl (by omega))) rfl ?_
       refine DOps.on rfl rfl ?_
       refine D (tm' := [(33, _)]) ⟨rfl, trivial⟩ (DStep.yields (Yields.fieldAddr_rop fo89_0 rfl)) rfl ?_
       refine DOps.on rfl rfl ?_
       refine D (tm' := [(34, _)]) ⟨rfl, trivial⟩ (DStep.yields (Yields.load_rop_field kd9 rfl rfl (bindsV_at hx) rfl rfl)) rfl ?_
       refine DOps.on rfl rfl ?_
       refine D (tm' := [(30, _), (35, _)]) ⟨rfl, rfl, trivial⟩ (DStep.yields (bn rfl rfl BinR.seql rfl)) rfl ?_
       refine D (tm' := [(25, _), (36, _)]) ⟨rfl, rfl, trivial⟩ (DStep.yields (Yields.pick_false rfl rfl)) rfl ?_
       refine D (tm' := [(37, _)]) ⟨rfl, trivial⟩ (DStep.yields (ass rfl)) rfl ?_
       refine DOps.nil ?_
       refine AWP.region ?_
       refine Y (mv rfl) rfl ?_
       refine Y (bn rfl rfl (BinR.addI (by omega) (by omega)) rfl) rfl ?_
       refine Y (ass rfl) rfl ?_
       refine AOps.nil ?_
       refine ⟨(decide (y.1 = x.1), k + 1), ?_, ?_, ?_⟩
       ·
        show bs.length - (k + 1) < bs.length - k
        omega
       ·
        show (k + 1) ≤ bs.length
        show k + 1 ≤ bs.length; omega
       · exact Leads.keepR (KeepR.cons 0 rfl KeepR.nil) ⟨rfl, rfl, rfl, rfl, rfl, rfl, trivial⟩
     ·
      replace g2 := of_decide_eq_false g2
      refine AWP.exit ?_
      refine AWP.seq ?_
      refine AWP.region ?_
      refine Y (mv rfl) rfl ?_
      refine Y (mv rfl) rfl ?_
      refine Y (Yields.idx_roN sl82 rfl rfl rfl rfl (by omega)) rfl ?_
      refine Y (Yields.fieldAddr_rop fo89_1 rfl) rfl ?_
      refine Y (Yields.load_rop_field kd9 rfl rfl (bindsV_at hx) rfl rfl) rfl ?_
      refine Y (mv rfl) rfl ?_
      refine Y (bn rfl rfl BinR.seql rfl) rfl ?_
      refine Y (mv rfl) rfl ?_
      refine AOps.split 45 rfl (fun c2 => ?_) (fun c2 => ?_)
      ·
       replace c2 := of_decide_eq_true c2
       refine AOps.on rfl rfl ?_
       refine Y (mv rfl) rfl ?_
       refine AOps.on rfl rfl ?_
       refine Y (Yields.not rfl) rfl ?_
       refine Y (Yields.pick_true rfl rfl) rfl ?_
       refine AOps.nil ?_
       refine AWP.condT rfl (fun c3 => ?_) (fun c3 => ?_)
       ·
        skip
        refine AWP.region ?_
        refine Y (mv rfl) rfl ?_
        refine Y (mv rfl) rfl ?_
        refine Y (mv rfl) rfl ?_
        refine Y (Yields.idx_roN sl82 rfl rfl rfl rfl (by omega)) rfl ?_
        refine Y (Yields.fieldAddr_rop fo89_0 rfl) rfl ?_
        refine Y (Yields.load_rop_field kd9 rfl rfl (bindsV_at hx) rfl rfl) rfl ?_
        refine AOps.buildSlice sl27 z9 rfl rfl rfl rfl rfl fun bs1 => ?_
        refine AOps.appendE (j := 1) sl27 z9 rfl rfl rfl rfl rfl (by simp [strs]) rfl (src_row (j2 := 0) rfl rfl rfl) (len_app l x.1) (strs_app l x.1) (by simp; omega) (by simp; omega) fun Bn => ?_
        refine Y (ass rfl) rfl ?_
        refine AOps.nil ?_
        refine AWP.region ?_
        refine Y (mv rfl) rfl ?_
        refine Y (bn rfl rfl (BinR.addI (by omega) (by omega)) rfl) rfl ?_
        refine Y (ass rfl) rfl ?_
        refine AOps.nil ?_
        refine ⟨(Bn, l ++ [x.1], i + 1), ?_, ?_, ?_⟩
        ·
         show bs.length - (i + 1) < bs.length - i
         omega
        ·
         show (i + 1) ≤ bs.length ∧ (l ++ [x.1]).length ≤ (i + 1) ∧ shortL (l ++ [x.1])
         exact ⟨by omega, by simp; omega, fun s hs' => by rcases List.mem_append.1 hs' with q | q; exact hls s q; rw [List.mem_singleton.1 q]; exact hs x (List.mem_of_getElem? hx)⟩
        · exact Leads.keepR (KeepR.cons 1 rfl KeepR.nil) ⟨rfl, rfl, rfl, rfl, trivial⟩
       ·
        skip
        refine AWP.skip ?_
        refine AWP.region ?_
        refine Y (mv rfl) rfl ?_
        refine Y (bn rfl rfl (BinR.addI (by omega) (by omega)) rfl) rfl ?_
        refine Y (ass rfl) rfl ?_
        refine AOps.nil ?_
        refine ⟨(B, l, i + 1), ?_, ?_, ?_⟩
        ·
         show bs.length - (i + 1) < bs.length - i
         omega
        ·
         show (i + 1) ≤ bs.length ∧ l.length ≤ (i + 1) ∧ shortL l
         exact ⟨by omega, by omega, hls⟩
        · exact Leads.keepR (KeepR.cons 0 rfl KeepR.nil) ⟨rfl, rfl, rfl, rfl, trivial⟩
      ·
       replace c2 := of_decide_eq_false c2
       refine AOps.off' rfl rfl rfl rfl ?_
       refine AOps.off' rfl rfl rfl rfl ?_
       refine Y (Yields.pick_false rfl rfl) rfl ?_
       refine AOps.nil ?_
       refine AWP.cond rfl (fun h => absurd h (by decide)) (fun _ => ?_)
       refine AWP.skip ?_
       refine AWP.region ?_
       refine Y (mv rfl) rfl ?_
       refine Y (bn rfl rfl (BinR.addI (by omega) (by omega)) rfl) rfl ?_
       refine Y (ass rfl) rfl ?_
       refine AOps.nil ?_
       refine ⟨(B, l, i + 1), ?_, ?_, ?_⟩
       ·
        show bs.length - (i + 1) < bs.length - i
        omega
       ·
        show (i + 1) ≤ bs.length ∧ l.length ≤ (i + 1) ∧ shortL l
        exact ⟨by omega, by omega, hls⟩
       · exact Leads.keepR (KeepR.cons 0 rfl KeepR.nil) ⟨rfl, rfl, rfl, rfl, trivial⟩
   ·
    replace g := of_decide_eq_false g
    refine AWP.exit ?_
    refine AWP.seq ?_
    refine AWP.region ?_
    refine Y (mv rfl) rfl ?_
    refine Y (ass rfl) rfl ?_
    refine AOps.nil ?_
    refine AWP.ret ⟨.inl rfl, ?_⟩
    exact RetH.of (rs := [.tmp 4]) (vs := [_]) rfl ⟨rfl, trivial⟩ (KeepR.cons 0 rfl KeepR.nil) (⟨B, l, by omega, hls, rfl, rfl⟩)
def declI (l : List DeclR) (s : ByteArray) (i : Int) : Int := match l with
  | [] => -1
  | d :: l => if d.n = s then i else declI l s (i + 1)
theorem declI_le (s : ByteArray) : ∀ (l : List DeclR) (i : Int), 0 ≤ i → -1 ≤ declI l s i ∧ declI l s i < i + l.length + 1 ∧ (declI l s i < 0 ∨ declI l s i < i + l.length)
  | [], i, h => by simp [declI]; omega
  | d :: l, i, h => by
    rw [declI]
    split
    · simp; omega
    · have := declI_le s l (i + 1) (by omega)
      simp; omega
theorem declAt_AF (s : ByteArray) : Fn 94 [moduleV, str s] (int (declI declsL s 0)) := by
  have hld := declsV_length declsL
  have hd2 : declsL.length = 2 := rfl
  refine AF.intro Tryz.func94 nm94 rfl rfl rfl rfl fun w0 ok0 => ?_
  refine AWP.seq ?_
  refine AWP.region ?_
  refine AOps.box rfl rfl rfl rfl fun b1 => ?_
  refine Y (ass rfl) rfl ?_
  refine AOps.nil ?_
  refine AWP.seq ?_
  refine AWP.seq ?_
  refine AWP.region ?_
  refine Y (ass rfl) rfl ?_
  refine AOps.nil ?_
  refine AWP.block ?_
  refine AWP.loopV (α := Nat) (fun i : Nat => ⟨[(1, str s), (2, .ptr (some b1) 0 0 3), (5, int i)], [(some b1, ⟨3, [moduleV]⟩)]⟩) (fun i : Nat => i ≤ declsL.length ∧ declI (declsL.drop i) s i = declI declsL s 0) (fun i : Nat => declsL.length - i) (0) ?_ ?_ ?_
  · exact Leads.rows 0 ⟨rfl, rfl, rfl, trivial⟩
  ·
   show 0 ≤ declsL.length ∧ declI (declsL.drop 0) s 0 = declI declsL s 0
   exact ⟨Nat.zero_le _, rfl⟩
  ·
   rintro i hinv
   refine AWP.seq ?_
   refine AWP.seq ?_
   refine AWP.region ?_
   obtain ⟨hi, hp⟩ := hinv
   refine Y (mv rfl) rfl ?_
   refine Y (Yields.fieldAddr_ptr fo73_2 rfl) rfl ?_
   refine Y (Yields.load_ptr_field (j := 0) kd71 rfl rfl rfl rfl rfl rfl rfl) rfl ?_
   refine Y (Yields.len_ro sl71 rfl) rfl ?_
   refine Y (bn rfl rfl BinR.lss rfl) rfl ?_
   refine AOps.nil ?_
   refine AWP.condT rfl (fun g => ?_) (fun g => ?_)
   ·
    replace g := of_decide_eq_true g
    obtain ⟨x, hx, hdx⟩ := drop_at (l := declsL) (i := i) (by omega)
    rw [hdx, declI] at hp
    refine AWP.skip ?_
    refine AWP.seq ?_
    refine AWP.block ?_
    refine AWP.seq ?_
    refine AWP.region ?_
    refine Y (Yields.fieldAddr_ptr fo73_2 rfl) rfl ?_
    refine Y (Yields.load_ptr_field (j := 0) kd71 rfl rfl rfl rfl rfl rfl rfl) rfl ?_
    refine Y (mv rfl) rfl ?_
    refine Y (Yields.idx_roN sl71 rfl rfl rfl rfl (by omega)) rfl ?_
    refine Y (Yields.fieldAddr_rop fo84_1 rfl) rfl ?_
    refine Y (Yields.load_rop_field kd9 rfl rfl (declsV_at hx) rfl rfl) rfl ?_
    refine Y (mv rfl) rfl ?_
    refine Y (bn rfl rfl BinR.seql rfl) rfl ?_
    refine AOps.nil ?_
    refine AWP.condT rfl (fun c => ?_) (fun c => ?_)
    ·
     replace c := of_decide_eq_true c
     refine AWP.seq ?_
     refine AWP.region ?_
     rw [if_pos c] at hp
     refine Y (mv rfl) rfl ?_
     refine Y (ass rfl) rfl ?_
     refine AOps.nil ?_
     refine AWP.ret ⟨.inl rfl, ?_⟩
     exact RetIs.oneV rfl rfl (by (rw [← hp]) <;> rfl)
    ·
     replace c := of_decide_eq_false c
     rw [if_neg c] at hp
     refine AWP.skip ?_
     refine AWP.region ?_
     refine Y (mv rfl) rfl ?_
     refine Y (bn rfl rfl (BinR.addI (by omega) (by omega)) rfl) rfl ?_
     refine Y (ass rfl) rfl ?_
     refine AOps.nil ?_
     refine ⟨i + 1, ?_, ?_, ?_⟩
     ·
      show declsL.length - (i + 1) < declsL.length - i
      omega
     ·
      show (i + 1) ≤ declsL.length ∧ declI (declsL.drop (i + 1)) s (i + 1) = declI declsL s 0
      exact ⟨by omega, hp⟩
     · exact Leads.rows 0 ⟨rfl, rfl, rfl, trivial⟩
   ·
    replace g := of_decide_eq_false g
    rw [List.drop_eq_nil_of_le (by omega), declI] at hp
    refine AWP.exit ?_
    refine AWP.seq ?_
    refine AWP.region ?_
    refine Y (ass rfl) rfl ?_
    refine AOps.nil ?_
    refine AWP.ret ⟨.inl rfl, ?_⟩
    exact RetIs.oneV rfl rfl (by (rw [← hp]) <;> rfl)
def moduleU : AV := .agg [str ⟨#[111, 110, 101]⟩, .ro 2 [] [] false, .ro 8 (declsV declsL) [] false]
theorem wk_module : Wk moduleV moduleU := Wk.agg (ps := [_, .ro 2 [] [] false, _]) ⟨Wk.refl _, Wk.nil, Wk.refl _, trivial⟩
theorem useAt_AF (s : ByteArray) : Fn 134 [moduleU, str s] (int (-1)) := by
  refine AF.intro Tryz.func134 nm134 rfl rfl rfl rfl fun w0 ok0 => ?_
  refine AWP.seq ?_
  refine AWP.region ?_
  refine AOps.box rfl rfl rfl rfl fun b1 => ?_
  refine Y (ass rfl) rfl ?_
  refine AOps.nil ?_
  refine AWP.seq ?_
  refine AWP.seq ?_
  refine AWP.region ?_
  refine Y (ass rfl) rfl ?_
  refine AOps.nil ?_
  refine AWP.block ?_
  refine AWP.loopV (α := Nat) (fun i : Nat => ⟨[(1, str s), (2, .ptr (some b1) 0 0 3), (5, int i)], [(some b1, ⟨3, [moduleU]⟩)]⟩) (fun i : Nat => True) (fun i : Nat => i) (0) ?_ ?_ ?_
  · exact Leads.rows 0 ⟨rfl, rfl, rfl, trivial⟩
  ·
   show True
   trivial
  ·
   rintro i hinv
   refine AWP.seq ?_
   refine AWP.seq ?_
   refine AWP.region ?_
   refine Y (mv rfl) rfl ?_
   refine Y (Yields.fieldAddr_ptr fo73_1 rfl) rfl ?_
   refine Y (Yields.load_ptr_field (j := 0) kd70 rfl rfl rfl rfl rfl rfl rfl) rfl ?_
   refine Y (Yields.len_ro sl70 rfl) rfl ?_
   refine Y (bn rfl rfl BinR.lss rfl) rfl ?_
   refine AOps.nil ?_
   refine AWP.condT rfl (fun g => ?_) (fun g => ?_)
   ·
    replace g := of_decide_eq_true g
    simp at g; omega
   ·
    replace g := of_decide_eq_false g
    refine AWP.exit ?_
    refine AWP.seq ?_
    refine AWP.region ?_
    refine Y (ass rfl) rfl ?_
    refine AOps.nil ?_
    refine AWP.ret ⟨.inl rfl, ?_⟩
    exact RetIs.oneV rfl rfl (by (rfl) <;> rfl)
theorem nowhere_AF : Fn 93 [] (.agg [int (-1), int (-1)]) := by
  refine AH.toF rfl (post := isV (.agg [int (-1), int (-1)])) ?_ (fun r hp' h => isV.fz rfl h)
  refine AH.intro Tryz.func93 nm93 rfl rfl rfl fun w0 ok0 own0 => ?_
  refine AWP.seq ?_
  refine AWP.region ?_
  refine AOps.alloc rfl z81 rfl rfl fun b0 => ?_
  refine AOps.nil ?_
  refine AWP.seq ?_
  refine AWP.region ?_
  refine Y (Yields.build pl81 z81 rfl rfl) rfl ?_
  refine AOps.store (j := 0) kd81 rfl rfl rfl rfl rfl rfl ?_
  refine AOps.nil ?_
  refine AWP.ret ⟨.inl rfl, ?_⟩
  exact RetH.of (rs := [.cell 0 81]) (vs := [_]) rfl ⟨resOne.cell (j := 0) rfl rfl kd81 rfl rfl rfl, trivial⟩ KeepR.nil (⟨rfl, rfl⟩)
def foundV (s : ByteArray) : Int × Int := if 0 ≤ declI declsL s 0 then (0, declI declsL s 0) else (-1, -1)
theorem found_AF (s : ByteArray) : Fn 126 [progV, int 0, str s] (.agg [int (foundV s).1, int (foundV s).2]) := by
  refine AH.toF rfl (post := isV (.agg [int (foundV s).1, int (foundV s).2])) ?_ (fun r hp' h => isV.fz rfl h)
  refine AH.intro Tryz.func126 nm126 rfl rfl rfl fun w0 ok0 own0 => ?_
  refine AWP.seq ?_
  refine AWP.region ?_
  refine AOps.alloc rfl z81 rfl rfl fun b6 => ?_
  refine AOps.nil ?_
  refine AWP.seq ?_
  refine AWP.seq ?_
  refine AWP.region ?_
  refine Y (mv rfl) rfl ?_
  refine Y (mv rfl) rfl ?_
  refine Y (Yields.idx_roN sl48 rfl rfl rfl (j := 0) rfl (by decide)) rfl ?_
  refine Y (Yields.load_rop_aggV kd73 rfl rfl rfl) rfl ?_
  refine Y (mv rfl) rfl ?_
  refine AOps.callro (declAt_AF s) rfl rfl rfl ?_
  refine Y (ass rfl) rfl ?_
  refine AOps.nil ?_
  refine AWP.seq ?_
  refine AWP.region ?_
  refine Y (mv rfl) rfl ?_
  refine Y (bn rfl rfl BinR.geq rfl) rfl ?_
  refine AOps.nil ?_
  refine AWP.condT rfl (fun c => ?_) (fun c => ?_)
  ·
   replace c := of_decide_eq_true c
   refine AWP.seq ?_
   refine AWP.region ?_
   refine Y (mv rfl) rfl ?_
   refine Y (mv rfl) rfl ?_
   refine Y (Yields.build pl81 z81 rfl rfl) rfl ?_
   refine AOps.store (j := 0) kd81 rfl rfl rfl rfl rfl rfl ?_
   refine AOps.nil ?_
   refine AWP.ret ⟨.inl rfl, ?_⟩
   exact RetH.of (rs := [.cell 6 81]) (vs := [_]) rfl ⟨resOne.cell (j := 0) rfl rfl kd81 rfl rfl rfl, trivial⟩ KeepR.nil (⟨by rw [foundV, if_pos c]; rfl, rfl⟩)
  ·
   replace c := of_decide_eq_false c
   refine AWP.skip ?_
   refine AWP.seq ?_
   refine AWP.seq ?_
   refine AWP.region ?_
   refine Y (mv rfl) rfl ?_
   refine Y (mv rfl) rfl ?_
   refine Y (Yields.idx_roN sl48 rfl rfl rfl (j := 0) rfl (by decide)) rfl ?_
   refine Y (Yields.load_rop_aggV kd73 rfl rfl rfl) rfl ?_
   refine Y (mv rfl) rfl ?_
   refine AOps.callw (useAt_AF s) rfl rfl ⟨wk_module, Wk.refl _, trivial⟩ rfl ?_
   refine Y (ass rfl) rfl ?_
   refine AOps.nil ?_
   refine AWP.seq ?_
   refine AWP.region ?_
   refine Y (mv rfl) rfl ?_
   refine Y (bn rfl rfl BinR.geq rfl) rfl ?_
   refine AOps.nil ?_
   refine AWP.condT rfl (fun c2 => ?_) (fun c2 => ?_)
   ·
    replace c2 := of_decide_eq_true c2
    omega
   ·
    replace c2 := of_decide_eq_false c2
    refine AWP.skip ?_
    refine AWP.seq ?_
    refine AWP.region ?_
    refine AOps.callro (nowhere_AF) rfl rfl rfl ?_
    refine AOps.store (j := 0) kd81 rfl rfl rfl rfl rfl rfl ?_
    refine AOps.nil ?_
    refine AWP.ret ⟨.inl rfl, ?_⟩
    exact RetH.of (rs := [.cell 6 81]) (vs := [_]) rfl ⟨resOne.cell (j := 0) rfl rfl kd81 rfl rfl rfl, trivial⟩ KeepR.nil (⟨by rw [foundV, if_neg c]; rfl, rfl⟩)
def goodD (d : DeclR) : Prop := d.bs.length ≤ 1 ∧ ∀ x ∈ d.bs, x.2 = tInt
def zeroD : DeclR := ⟨0, ⟨#[]⟩, [], ⟨#[]⟩, 0, 0, ⟨#[]⟩, []⟩
theorem declsL_good : ∀ d ∈ declsL, goodD d ∧ d.k = 0 := by
  intro d hd
  simp only [declsL, List.mem_cons, List.not_mem_nil, or_false] at hd
  rcases hd with rfl | rfl
  · exact ⟨⟨by decide, by intro x hx; simp [dF] at hx; rw [hx]⟩, rfl⟩
  · exact ⟨⟨by decide, by intro x hx; simp [dG] at hx; rw [hx]⟩, rfl⟩
def someD : AV → Hp → Prop := fun r hp' => ∃ (d : DeclR) (f : Bool), goodD d ∧ r = .tup [declR d, bool f] ∧ hp' = []
theorem wk_zeroD : Wk (.agg [int 0, str ⟨#[]⟩, .val (.slice none 0 0), str ⟨#[]⟩, int 0, int 0, str ⟨#[]⟩, .val (.slice none 0 0)]) (declR zeroD) :=
  Wk.agg (ps := [_, _, .ro 2 [] [] false, _, _, _, _, .ro 4 [] [] false]) ⟨Wk.refl _, Wk.refl _, Wk.nil, Wk.refl _, Wk.refl _, Wk.refl _, Wk.refl _, Wk.nil, trivial⟩
theorem functionN_AH (s : ByteArray) (hf : Fn 126 [progV, int 0, str s] (.agg [int (-1), int (-1)])) : FnH 127 [] [progV, int 0, str s] someD := by
  refine AH.intro Tryz.func127 nm127 rfl rfl rfl fun w0 ok0 own0 => ?_
  refine AWP.seq ?_
  refine AWP.region ?_
  refine AOps.alloc rfl z84 rfl rfl fun b6 => ?_
  refine Y (ass rfl) rfl ?_
  refine AOps.nil ?_
  refine AWP.seq ?_
  refine AWP.region ?_
  refine Y (mv rfl) rfl ?_
  refine Y (mv rfl) rfl ?_
  refine Y (mv rfl) rfl ?_
  refine AOps.callro (hf) rfl rfl rfl ?_
  refine AOps.alloc rfl z81 rfl rfl fun b8 => ?_
  refine AOps.store (j := 0) kd81 rfl rfl rfl rfl rfl rfl ?_
  refine AOps.nil ?_
  refine AWP.seq ?_
  refine AWP.seq ?_
  refine AWP.prune (tm' := [(0, _), (1, _), (2, _), (6, _), (7, _), (8, _)]) ⟨rfl, rfl, rfl, rfl, rfl, rfl, trivial⟩ ?_
  refine AWP.drawn mixed rfl rfl ?_
  refine D (tm' := [(8, _)]) ⟨rfl, trivial⟩ (DStep.yields (Yields.fieldAddr_ptr fo81_0 rfl)) rfl ?_
  refine D (tm' := [(13, _)]) ⟨rfl, trivial⟩ (DStep.yields (Yields.load_ptr_field (j := 0) kd3 rfl rfl rfl rfl rfl rfl rfl)) rfl ?_
  refine D (tm' := [(14, _)]) ⟨rfl, trivial⟩ (DStep.yields (bn rfl rfl BinR.lss rfl)) rfl ?_
  refine D (tm' := [(15, _)]) ⟨rfl, trivial⟩ (DStep.yields (mv rfl)) rfl ?_
  refine DOps.split 3 rfl (fun c => ?_) (fun c => ?_)
  ·
   replace c := of_decide_eq_true c
   refine DOps.off rfl rfl rfl rfl ?_
   refine DOps.off rfl rfl rfl rfl ?_
   refine DOps.off rfl rfl rfl rfl ?_
   refine DOps.off rfl rfl rfl rfl ?_
   refine DOps.off rfl rfl rfl rfl ?_
   refine DOps.off rfl rfl rfl rfl ?_
   refine DOps.off rfl rfl rfl rfl ?_
   refine DOps.off rfl rfl rfl rfl ?_
   refine DOps.off rfl rfl rfl rfl ?_
   refine DOps.off rfl rfl rfl rfl ?_
   refine DOps.off rfl rfl rfl rfl ?_
   refine DOps.off rfl rfl rfl rfl ?_
   refine D (tm' := [(16, _), (28, _)]) ⟨rfl, rfl, trivial⟩ (DStep.yields (Yields.pick_true rfl rfl)) rfl ?_
   refine DOps.nil ?_
   refine AWP.cond rfl (fun _ => ?_) (fun h => absurd h (by decide))
   refine AWP.seq ?_
   refine AWP.region ?_
   refine Y (Yields.build pl84 z84 rfl rfl) rfl ?_
   refine AOps.store (j := 1) kd84 rfl rfl rfl rfl rfl rfl ?_
   refine Y (ass rfl) rfl ?_
   refine AOps.nil ?_
   refine AWP.leads (Leads.rowWk 1 0 rfl rfl wk_zeroD) ?_
   refine AWP.ret ⟨.inl rfl, ?_⟩
   exact RetH.of (rs := [.cell 6 84, .tmp 7]) (vs := [_, _]) rfl ⟨resOne.cell (j := 1) rfl rfl kd84 rfl rfl rfl, rfl, trivial⟩ KeepR.nil (⟨zeroD, false, ⟨by decide, fun x hx => by simp [zeroD] at hx⟩, rfl, rfl⟩)
  ·
   replace c := of_decide_eq_false c
   omega
theorem functionY_AH (s : ByteArray) (j : Nat) (x : DeclR) (hj : declsL[j]? = some x) (hj2 : j < 2) (hf : Fn 126 [progV, int 0, str s] (.agg [int 0, int j])) : FnH 127 [] [progV, int 0, str s] someD := by
  have hx := declsL_good x (List.mem_of_getElem? hj)
  have hld : (declsV declsL).length = 2 := rfl
  refine AH.intro Tryz.func127 nm127 rfl rfl rfl fun w0 ok0 own0 => ?_
  refine AWP.seq ?_
  refine AWP.region ?_
  refine AOps.alloc rfl z84 rfl rfl fun b6 => ?_
  refine Y (ass rfl) rfl ?_
  refine AOps.nil ?_
  refine AWP.seq ?_
  refine AWP.region ?_
  refine Y (mv rfl) rfl ?_
  refine Y (mv rfl) rfl ?_
  refine Y (mv rfl) rfl ?_
  refine AOps.callro (hf) rfl rfl rfl ?_
  refine AOps.alloc rfl z81 rfl rfl fun b8 => ?_
  refine AOps.store (j := 0) kd81 rfl rfl rfl rfl rfl rfl ?_
  refine AOps.nil ?_
  refine AWP.seq ?_
  refine AWP.seq ?_
  refine AWP.prune (tm' := [(0, _), (1, _), (2, _), (6, _), (7, _), (8, _)]) ⟨rfl, rfl, rfl, rfl, rfl, rfl, trivial⟩ ?_
  refine AWP.drawn mixed rfl rfl ?_
  refine D (tm' := [(8, _)]) ⟨rfl, trivial⟩ (DStep.yields (Yields.fieldAddr_ptr fo81_0 rfl)) rfl ?_
  refine D (tm' := [(13, _)]) ⟨rfl, trivial⟩ (DStep.yields (Yields.load_ptr_field (j := 0) kd3 rfl rfl rfl rfl rfl rfl rfl)) rfl ?_
  refine D (tm' := [(14, _)]) ⟨rfl, trivial⟩ (DStep.yields (bn rfl rfl BinR.lss rfl)) rfl ?_
  refine D (tm' := [(15, _)]) ⟨rfl, trivial⟩ (DStep.yields (mv rfl)) rfl ?_
  refine DOps.split 3 rfl (fun c => ?_) (fun c => ?_)
  ·
   replace c := of_decide_eq_true c
   omega
  ·
   replace c := of_decide_eq_false c
   refine DOps.on rfl rfl ?_
   refine D (tm' := [(0, _)]) ⟨rfl, trivial⟩ (DStep.yields (mv rfl)) rfl ?_
   refine DOps.on rfl rfl ?_
   refine D (tm' := [(8, _)]) ⟨rfl, trivial⟩ (DStep.yields (Yields.fieldAddr_ptr fo81_0 rfl)) rfl ?_
   refine DOps.on rfl rfl ?_
   refine D (tm' := [(18, _)]) ⟨rfl, trivial⟩ (DStep.yields (Yields.load_ptr_field (j := 0) kd3 rfl rfl rfl rfl rfl rfl rfl)) rfl ?_
   refine DOps.on rfl rfl ?_
   refine D (tm' := [(17, _), (19, _)]) ⟨rfl, rfl, trivial⟩ (DStep.yields (Yields.idx_roN sl48 rfl rfl rfl (j := 0) rfl (by decide))) rfl ?_
   refine DOps.on rfl rfl ?_
   refine D (tm' := [(20, _)]) ⟨rfl, trivial⟩ (DStep.yields (Yields.fieldAddr_rop fo73_2 rfl)) rfl ?_
   refine DOps.on rfl rfl ?_
   refine D (tm' := [(21, _)]) ⟨rfl, trivial⟩ (DStep.yields (Yields.load_rop_field kd71 rfl rfl rfl rfl rfl)) rfl ?_
   refine DOps.on rfl rfl ?_
   refine D (tm' := [(8, _)]) ⟨rfl, trivial⟩ (DStep.yields (Yields.fieldAddr_ptr fo81_1 rfl)) rfl ?_
   refine DOps.on rfl rfl ?_
   refine D (tm' := [(23, _)]) ⟨rfl, trivial⟩ (DStep.yields (Yields.load_ptr_field (j := 0) kd3 rfl rfl rfl rfl rfl rfl rfl)) rfl ?_
   refine DOps.on rfl rfl ?_
   refine D (tm' := [(22, _), (24, _)]) ⟨rfl, rfl, trivial⟩ (DStep.yields (Yields.idx_roN sl71 rfl rfl rfl (j := j) rfl (by omega))) rfl ?_
   refine DOps.on rfl rfl ?_
   refine D (tm' := [(25, _)]) ⟨rfl, trivial⟩ (DStep.yields (Yields.fieldAddr_rop fo84_0 rfl)) rfl ?_
   refine DOps.on rfl rfl ?_
   refine D (tm' := [(26, _)]) ⟨rfl, trivial⟩ (DStep.yields (Yields.load_rop_field kd3 rfl rfl (declsV_at hj) rfl rfl)) rfl ?_
   refine DOps.on rfl rfl ?_
   refine D (tm' := [(27, _)]) ⟨rfl, trivial⟩ (DStep.yields (bn rfl rfl BinR.neq rfl)) rfl ?_
   refine D (tm' := [(16, _), (28, _)]) ⟨rfl, rfl, trivial⟩ (DStep.yields (Yields.pick_false rfl rfl)) rfl ?_
   refine DOps.nil ?_
   refine AWP.condT rfl (fun c2 => ?_) (fun c2 => ?_)
   ·
    replace c2 := bne_iff_ne.1 c2
    exact absurd hx.2 c2
   ·
    replace c2 := bne_eq_false_iff_eq.1 c2
    refine AWP.skip ?_
    refine AWP.seq ?_
    refine AWP.prune (tm' := [(0, _), (1, _), (2, _), (6, _), (7, _), (8, _), (29, _)]) ⟨rfl, rfl, rfl, rfl, rfl, rfl, rfl, trivial⟩ ?_
    refine AWP.drawnM [] [.pure 0, .pure 1, .pure 2, .pure 3, .pure 4, .pure 5, .pure 6, .pure 7, .pure 8, .pure 9, .spine 10 [] [0, 1, 2, 3, 4, 5, 6, 7, 8, 9], .pure 11] mixed rfl rfl rfl rfl rfl ?_
    refine DM.pure (GX (tm' := [(0, _)]) rfl ⟨rfl, trivial⟩ rfl (DStep.yields (mv rfl)) rfl) ?_
    refine DM.pure (GX (tm' := [(8, _)]) rfl ⟨rfl, trivial⟩ rfl (DStep.yields (Yields.fieldAddr_ptr fo81_0 rfl)) rfl) ?_
    refine DM.pure (GX (tm' := [(32, _)]) rfl ⟨rfl, trivial⟩ rfl (DStep.yields (Yields.load_ptr_field (j := 0) kd3 rfl rfl rfl rfl rfl rfl rfl)) rfl) ?_
    refine DM.pure (GX (tm' := [(31, _), (33, _)]) rfl ⟨rfl, rfl, trivial⟩ rfl (DStep.yields (Yields.idx_roN sl48 rfl rfl rfl (j := 0) rfl (by decide))) rfl) ?_
    refine DM.pure (GX (tm' := [(34, _)]) rfl ⟨rfl, trivial⟩ rfl (DStep.yields (Yields.fieldAddr_rop fo73_2 rfl)) rfl) ?_
    refine DM.pure (GX (tm' := [(35, _)]) rfl ⟨rfl, trivial⟩ rfl (DStep.yields (Yields.load_rop_field kd71 rfl rfl rfl rfl rfl)) rfl) ?_
    refine DM.pure (GX (tm' := [(8, _)]) rfl ⟨rfl, trivial⟩ rfl (DStep.yields (Yields.fieldAddr_ptr fo81_1 rfl)) rfl) ?_
    refine DM.pure (GX (tm' := [(37, _)]) rfl ⟨rfl, trivial⟩ rfl (DStep.yields (Yields.load_ptr_field (j := 0) kd3 rfl rfl rfl rfl rfl rfl rfl)) rfl) ?_
    refine DM.pure (GX (tm' := [(36, _), (38, _)]) rfl ⟨rfl, rfl, trivial⟩ rfl (DStep.yields (Yields.idx_roN sl71 rfl rfl rfl (j := j) rfl (by omega))) rfl) ?_
    refine DM.pure (GX (tm' := [(39, _)]) rfl ⟨rfl, trivial⟩ rfl (DStep.yields (Yields.load_rop_aggV kd84 rfl (declsV_at hj) rfl)) rfl) ?_
    refine DM.sp rfl rfl ?_
    refine DOpen.nil fun _ _ _ => ?_
    refine AOps.subT (tm' := [(6, _), (40, _)]) ⟨rfl, rfl, trivial⟩ ?_
    refine AOps.store (j := 1) kd84 rfl rfl rfl rfl rfl rfl ?_
    refine AOps.nil ?_
    refine SpK.mk0 (Stab.all rfl) ?_
    refine DM.pure (GX (tm' := []) rfl trivial rfl (DStep.yields (ass rfl)) rfl) ?_
    refine DM.nil ?_
    refine AWP.ret ⟨.inl rfl, ?_⟩
    exact RetH.of (rs := [.cell 6 84, .tmp 7]) (vs := [_, _]) rfl ⟨resOne.cell (j := 1) rfl rfl kd84 rfl rfl rfl, rfl, trivial⟩ KeepR.nil (⟨x, true, hx.1, rfl, rfl⟩)
theorem function_AH (s : ByteArray) : FnH 127 [] [progV, int 0, str s] someD := by
  have hf := found_AF s
  by_cases h : 0 ≤ declI declsL s 0
  · have hle := declI_le s declsL 0 (by omega)
    have h2 : (declsL.length : Int) = 2 := rfl
    obtain ⟨n, hn⟩ : ∃ n : Nat, declI declsL s 0 = n := ⟨(declI declsL s 0).toNat, by omega⟩
    obtain ⟨x, hx, _⟩ := drop_at (l := declsL) (i := n) (by omega)
    refine functionY_AH s n x hx (by omega) ?_
    have e : foundV s = (0, (n : Int)) := by rw [foundV, if_pos h, hn]
    rw [e] at hf
    exact hf
  · refine functionN_AH s ?_
    have e : foundV s = (-1, -1) := by rw [foundV, if_neg h]
    rw [e] at hf
    exact hf
abbrev zeroDA : AV := .agg [int 0, str ⟨#[]⟩, .val (.slice none 0 0), str ⟨#[]⟩, int 0, int 0, str ⟨#[]⟩, .val (.slice none 0 0)]
theorem record_AH (s : ByteArray) : FnH 119 [] [progV, str s] (isV (.tup [declR zeroD, bool false])) := by
  have hle := declI_le s declsL 0 (by omega)
  have h2 : (declsL.length : Int) = 2 := rfl
  have hld : (declsV declsL).length = 2 := rfl
  refine AH.intro Tryz.func119 nm119 rfl rfl rfl fun w0 ok0 own0 => ?_
  refine AWP.seq ?_
  refine AWP.region ?_
  refine AOps.alloc rfl z84 rfl rfl fun b4 => ?_
  refine Y (ass rfl) rfl ?_
  refine AOps.nil ?_
  refine AWP.seq ?_
  refine AWP.seq ?_
  refine AWP.region ?_
  refine Y (ass rfl) rfl ?_
  refine AOps.nil ?_
  refine AWP.block ?_
  refine AWP.loopV (α := Nat) (fun i : Nat => ⟨[(0, progV), (1, str s), (4, .ptr (some b4) 0 0 8), (6, int i)], [(some b4, ⟨8, [zeroDA]⟩)]⟩) (fun i : Nat => i ≤ 1) (fun i : Nat => 1 - i) (0) ?_ ?_ ?_
  · exact Leads.keepR (KeepR.cons 0 rfl KeepR.nil) ⟨rfl, rfl, rfl, rfl, trivial⟩
  ·
   show 0 ≤ 1
   exact Nat.zero_le _
  ·
   rintro i hinv
   refine AWP.seq ?_
   refine AWP.seq ?_
   refine AWP.region ?_
   have hi : i ≤ 1 := hinv
   refine Y (mv rfl) rfl ?_
   refine Y (mv rfl) rfl ?_
   refine Y (Yields.len_ro sl48 rfl) rfl ?_
   refine Y (bn rfl rfl BinR.lss rfl) rfl ?_
   refine AOps.nil ?_
   refine AWP.condT rfl (fun g => ?_) (fun g => ?_)
   ·
    replace g := of_decide_eq_true g
    have hi0 : i = 0 := by simp at g; omega
    refine AWP.skip ?_
    refine AWP.seq ?_
    refine AWP.block ?_
    refine AWP.seq ?_
    refine AWP.region ?_
    refine Y (mv rfl) rfl ?_
    refine Y (mv rfl) rfl ?_
    refine Y (Yields.idx_roN sl48 rfl rfl rfl (j := 0) (by omega) (by decide)) rfl ?_
    refine Y (Yields.load_rop_aggV kd73 rfl rfl rfl) rfl ?_
    refine Y (mv rfl) rfl ?_
    refine AOps.callro (declAt_AF s) rfl rfl rfl ?_
    refine Y (ass rfl) rfl ?_
    refine AOps.nil ?_
    refine AWP.seq ?_
    refine AWP.region ?_
    refine Y (mv rfl) rfl ?_
    refine Y (bn rfl rfl BinR.geq rfl) rfl ?_
    refine Y (mv rfl) rfl ?_
    refine AOps.split 22 rfl (fun c => ?_) (fun c => ?_)
    ·
     replace c := of_decide_eq_true c
     refine AOps.on rfl rfl ?_
     refine Y (mv rfl) rfl ?_
     refine AOps.on rfl rfl ?_
     refine Y (mv rfl) rfl ?_
     refine AOps.on rfl rfl ?_
     refine Y (Yields.idx_roN sl48 rfl rfl rfl (j := 0) (by omega) (by decide)) rfl ?_
     refine AOps.on rfl rfl ?_
     refine Y (Yields.fieldAddr_rop fo73_2 rfl) rfl ?_
     refine AOps.on rfl rfl ?_
     refine Y (Yields.load_rop_field kd71 rfl rfl rfl rfl rfl) rfl ?_
     obtain ⟨n, hn⟩ : ∃ n : Nat, declI declsL s 0 = n := ⟨(declI declsL s 0).toNat, by omega⟩
     obtain ⟨x, hx, _⟩ := drop_at (l := declsL) (i := n) (by omega)
     have hxg := declsL_good x (List.mem_of_getElem? hx)
     refine AOps.on rfl rfl ?_
     refine Y (mv rfl) rfl ?_
     refine AOps.on rfl rfl ?_
     refine Y (Yields.idx_roN sl71 rfl rfl rfl (j := n) (by omega) (by omega)) rfl ?_
     refine AOps.on rfl rfl ?_
     refine Y (Yields.fieldAddr_rop fo84_0 rfl) rfl ?_
     refine AOps.on rfl rfl ?_
     refine Y (Yields.load_rop_field kd3 rfl rfl (declsV_at hx) rfl rfl) rfl ?_
     refine AOps.on rfl rfl ?_
     refine Y (bn rfl rfl BinR.eql rfl) rfl ?_
     refine Y (Yields.pick_true rfl rfl) rfl ?_
     refine AOps.nil ?_
     refine AWP.condT rfl (fun c2 => ?_) (fun c2 => ?_)
     ·
      replace c2 := eq_of_beq c2
      omega
     ·
      replace c2 := ne_of_beq_false c2
      refine AWP.skip ?_
      refine AWP.region ?_
      refine Y (mv rfl) rfl ?_
      refine Y (bn rfl rfl (BinR.addI (by omega) (by omega)) rfl) rfl ?_
      refine Y (ass rfl) rfl ?_
      refine AOps.nil ?_
      refine ⟨i + 1, ?_, ?_, ?_⟩
      ·
       show 1 - (i + 1) < 1 - i
       omega
      ·
       show (i + 1) ≤ 1
       show i + 1 ≤ 1; omega
      · exact Leads.keepR (KeepR.cons 0 rfl KeepR.nil) ⟨rfl, rfl, rfl, rfl, trivial⟩
    ·
     replace c := of_decide_eq_false c
     refine AOps.off' rfl rfl rfl rfl ?_
     refine AOps.off' rfl rfl rfl rfl ?_
     refine AOps.off' rfl rfl rfl rfl ?_
     refine AOps.off' rfl rfl rfl rfl ?_
     refine AOps.off' rfl rfl rfl rfl ?_
     refine AOps.off' rfl rfl rfl rfl ?_
     refine AOps.off' rfl rfl rfl rfl ?_
     refine AOps.off' rfl rfl rfl rfl ?_
     refine AOps.off' rfl rfl rfl rfl ?_
     refine AOps.off' rfl rfl rfl rfl ?_
     refine Y (Yields.pick_false rfl rfl) rfl ?_
     refine AOps.nil ?_
     refine AWP.cond rfl (fun h => absurd h (by decide)) (fun _ => ?_)
     refine AWP.skip ?_
     refine AWP.region ?_
     refine Y (mv rfl) rfl ?_
     refine Y (bn rfl rfl (BinR.addI (by omega) (by omega)) rfl) rfl ?_
     refine Y (ass rfl) rfl ?_
     refine AOps.nil ?_
     refine ⟨i + 1, ?_, ?_, ?_⟩
     ·
      show 1 - (i + 1) < 1 - i
      omega
     ·
      show (i + 1) ≤ 1
      show i + 1 ≤ 1; omega
     · exact Leads.keepR (KeepR.cons 0 rfl KeepR.nil) ⟨rfl, rfl, rfl, rfl, trivial⟩
   ·
    replace g := of_decide_eq_false g
    refine AWP.exit ?_
    refine AWP.seq ?_
    refine AWP.region ?_
    refine Y (Yields.build pl84 z84 rfl rfl) rfl ?_
    refine AOps.store (j := 0) kd84 rfl rfl rfl rfl rfl rfl ?_
    refine Y (ass rfl) rfl ?_
    refine AOps.nil ?_
    refine AWP.leads (Leads.rowWk 0 0 rfl rfl wk_zeroD) ?_
    refine AWP.ret ⟨.inl rfl, ?_⟩
    exact RetH.of (rs := [.cell 4 84, .tmp 5]) (vs := [_, _]) rfl ⟨resOne.cell (j := 0) rfl rfl kd84 rfl rfl rfl, rfl, trivial⟩ KeepR.nil (⟨rfl, rfl⟩)
abbrev mkR (b m : Nat) (left : Int) (calm : Bool) : Option Nat × Row := (some m, ⟨5, [.agg [.ptr (some b) 0 0 2, progV, int 0, int left, bool calm]]⟩)
def typesL : List ByteArray := [tInt, tInt, tInt, ⟨#[98, 111, 111, 108]⟩, ⟨#[116, 101, 120, 116]⟩, ⟨#[91, 105, 110, 116, 93]⟩, ⟨#[91, 105, 110, 116, 93]⟩, ⟨#[91, 116, 101, 120, 116, 93]⟩, ⟨#[91, 91, 105, 110, 116, 93, 93]⟩]
def typP (s : ByteArray) : Prop := s ∈ typesL
def mkP (P : ByteArray → Prop) (b m : Nat) (code : List UInt8) (p k : Nat) (left : Int) (calm : Bool) : AV → Hp → Prop := fun r hp' => ∃ (s : ByteArray) (q : Nat), P s ∧ p ≤ q ∧ q ≤ p + k ∧ r = str s ∧ hp' = [src b code q, mkR b m left calm]
theorem types_AH (b m : Nat) (code : List UInt8) (p : Nat) (left : Int) (calm : Bool) (hc : code.length ≤ 1048576) (hp : p ≤ 10000000000) : FnH 64 [src b code p, mkR b m left calm] [.ptr (some m) 0 0 5] (mkP typP b m code p 2 left calm) := by
  have hld : (declsV declsL).length = 2 := rfl
  have hl2 : declsL.length = 2 := rfl
  refine AH.intro Tryz.func64 nm64 rfl rfl rfl fun w0 ok0 own0 => ?_
  refine AWP.seq ?_
  refine AWP.region ?_
  refine Y (ass rfl) rfl ?_
  refine AOps.nil ?_
  refine AWP.seq ?_
  refine AWP.region ?_
  refine AOps.buildSlice sl27 z9 rfl rfl rfl rfl rfl fun l1 => ?_
  refine AOps.leads (Leads.freezeT 1 7 (.inl trivial) rfl (fz_strs typesL rfl)) ?_
  refine Y (ass rfl) rfl ?_
  refine AOps.nil ?_
  refine AWP.seq ?_
  refine AWP.seq ?_
  refine AWP.region ?_
  refine Y (ass rfl) rfl ?_
  refine AOps.nil ?_
  refine AWP.block ?_
  refine AWP.loopV (α := Nat) (fun i : Nat => ⟨[(0, .ptr (some m) 0 0 5), (3, .ro 1 (strs typesL) [] false), (4, int i)], [src b code p, mkR b m left calm]⟩) (fun i : Nat => i ≤ 1) (fun i : Nat => 1 - i) (0) ?_ ?_ ?_
  · exact Leads.keepR (KeepR.cons 0 rfl (KeepR.cons 0 rfl KeepR.nil)) ⟨rfl, rfl, rfl, trivial⟩
  ·
   show 0 ≤ 1
   exact Nat.zero_le _
  ·
   rintro i hinv
   refine AWP.seq ?_
   refine AWP.seq ?_
   refine AWP.region ?_
   have hi : i ≤ 1 := hinv
   refine Y (mv rfl) rfl ?_
   refine Y (mv rfl) rfl ?_
   refine Y (Yields.nilCheck_ptr rfl) rfl ?_
   refine Y (Yields.fieldAddr_ptr fo69_1 rfl) rfl ?_
   refine Y (Yields.load_ptr_field (j := 1) kd48 rfl rfl rfl rfl rfl rfl rfl) rfl ?_
   refine Y (Yields.len_ro sl48 rfl) rfl ?_
   refine Y (bn rfl rfl BinR.lss rfl) rfl ?_
   refine AOps.nil ?_
   refine AWP.condT rfl (fun g => ?_) (fun g => ?_)
   ·
    replace g := of_decide_eq_true g
    have hi0 : i = 0 := by simp at g; omega
    refine AWP.skip ?_
    refine AWP.seq ?_
    refine AWP.block ?_
    refine AWP.seq ?_
    refine AWP.region ?_
    refine Y (ass rfl) rfl ?_
    refine AOps.nil ?_
    refine AWP.block ?_
    refine AWP.loopV (α := Nat) (fun k : Nat => ⟨[(0, .ptr (some m) 0 0 5), (3, .ro 1 (strs typesL) [] false), (4, int i), (5, int k)], [src b code p, mkR b m left calm]⟩) (fun k : Nat => k ≤ 2) (fun k : Nat => 2 - k) (0) ?_ ?_ ?_
    · exact Leads.keepR (KeepR.cons 0 rfl (KeepR.cons 0 rfl KeepR.nil)) ⟨rfl, rfl, rfl, rfl, trivial⟩
    ·
     show 0 ≤ 2
     exact Nat.zero_le _
    ·
     rintro k hinv
     refine AWP.seq ?_
     refine AWP.seq ?_
     refine AWP.region ?_
     have hk : k ≤ 2 := hinv
     refine Y (mv rfl) rfl ?_
     refine Y (mv rfl) rfl ?_
     refine Y (Yields.nilCheck_ptr rfl) rfl ?_
     refine Y (Yields.fieldAddr_ptr fo69_1 rfl) rfl ?_
     refine Y (Yields.load_ptr_field (j := 1) kd48 rfl rfl rfl rfl rfl rfl rfl) rfl ?_
     refine Y (mv rfl) rfl ?_
     refine Y (Yields.idx_roN sl48 rfl rfl rfl (j := 0) (by omega) (by decide)) rfl ?_
     refine Y (Yields.fieldAddr_rop fo73_2 rfl) rfl ?_
     refine Y (Yields.load_rop_field kd71 rfl rfl rfl rfl rfl) rfl ?_
     refine Y (Yields.len_ro sl71 rfl) rfl ?_
     refine Y (bn rfl rfl BinR.lss rfl) rfl ?_
     refine AOps.nil ?_
     refine AWP.condT rfl (fun g2 => ?_) (fun g2 => ?_)
     ·
      replace g2 := of_decide_eq_true g2
      obtain ⟨x, hx, _⟩ := drop_at (l := declsL) (i := k) (by omega)
      have hxg := declsL_good x (List.mem_of_getElem? hx)
      refine AWP.skip ?_
      refine AWP.seq ?_
      refine AWP.block ?_
      refine AWP.seq ?_
      refine AWP.region ?_
      refine Y (mv rfl) rfl ?_
      refine Y (Yields.nilCheck_ptr rfl) rfl ?_
      refine Y (Yields.fieldAddr_ptr fo69_1 rfl) rfl ?_
      refine Y (Yields.load_ptr_field (j := 1) kd48 rfl rfl rfl rfl rfl rfl rfl) rfl ?_
      refine Y (mv rfl) rfl ?_
      refine Y (Yields.idx_roN sl48 rfl rfl rfl (j := 0) (by omega) (by decide)) rfl ?_
      refine Y (Yields.fieldAddr_rop fo73_2 rfl) rfl ?_
      refine Y (Yields.load_rop_field kd71 rfl rfl rfl rfl rfl) rfl ?_
      refine Y (mv rfl) rfl ?_
      refine Y (Yields.idx_roN sl71 rfl rfl rfl (j := k) rfl (by omega)) rfl ?_
      refine Y (Yields.load_rop_aggV kd84 rfl (declsV_at hx) rfl) rfl ?_
      refine AOps.alloc rfl z84 rfl rfl fun b6 => ?_
      refine AOps.store (j := 0) kd84 rfl rfl rfl rfl rfl rfl ?_
      refine AOps.nil ?_
      refine AWP.seq ?_
      refine AWP.prune (tm' := [(0, _), (3, _), (4, _), (5, _), (27, _), (6, _)]) ⟨rfl, rfl, rfl, rfl, rfl, rfl, trivial⟩ ?_
      refine AWP.drawn mixed rfl rfl ?_
      refine D (tm' := [(6, _)]) ⟨rfl, trivial⟩ (DStep.yields (Yields.fieldAddr_ptr fo84_0 rfl)) rfl ?_
      refine D (tm' := [(41, _)]) ⟨rfl, trivial⟩ (DStep.yields (Yields.load_ptr_field (j := 0) kd3 rfl rfl rfl rfl rfl rfl rfl)) rfl ?_
      refine D (tm' := [(42, _)]) ⟨rfl, trivial⟩ (DStep.yields (bn rfl rfl BinR.eql rfl)) rfl ?_
      refine D (tm' := [(43, _)]) ⟨rfl, trivial⟩ (DStep.yields (mv rfl)) rfl ?_
      refine DOps.split 3 rfl (fun c => ?_) (fun c => ?_)
      ·
       replace c := eq_of_beq c
       omega
      ·
       replace c := ne_of_beq_false c
       refine DOps.off rfl rfl rfl rfl ?_
       refine DOps.off rfl rfl rfl rfl ?_
       refine DOps.off rfl rfl rfl rfl ?_
       refine DOps.off rfl rfl rfl rfl ?_
       refine DOps.off rfl rfl rfl rfl ?_
       refine DOps.off rfl rfl rfl rfl ?_
       refine DOps.off rfl rfl rfl rfl ?_
       refine DOps.off rfl rfl rfl rfl ?_
       refine DOps.off rfl rfl rfl rfl ?_
       refine DOps.off rfl rfl rfl rfl ?_
       refine DOps.off rfl rfl rfl rfl ?_
       refine D (tm' := [(44, _), (55, _)]) ⟨rfl, rfl, trivial⟩ (DStep.yields (Yields.pick_false rfl rfl)) rfl ?_
       refine DOps.nil ?_
       refine AWP.cond rfl (fun h => absurd h (by decide)) (fun _ => ?_)
       refine AWP.skip ?_
       refine AWP.region ?_
       refine Y (mv rfl) rfl ?_
       refine Y (bn rfl rfl (BinR.addI (by omega) (by omega)) rfl) rfl ?_
       refine Y (ass rfl) rfl ?_
       refine AOps.nil ?_
       refine ⟨k + 1, ?_, ?_, ?_⟩
       ·
        show 2 - (k + 1) < 2 - k
        omega
       ·
        show (k + 1) ≤ 2
        show k + 1 ≤ 2; omega
       · exact Leads.keepR (KeepR.cons 1 rfl (KeepR.cons 1 rfl KeepR.nil)) ⟨rfl, rfl, rfl, rfl, trivial⟩
     ·
      replace g2 := of_decide_eq_false g2
      refine AWP.exit ?_
      refine AWP.region ?_
      refine Y (mv rfl) rfl ?_
      refine Y (bn rfl rfl (BinR.addI (by omega) (by omega)) rfl) rfl ?_
      refine Y (ass rfl) rfl ?_
      refine AOps.nil ?_
      refine ⟨i + 1, ?_, ?_, ?_⟩
      ·
       show 1 - (i + 1) < 1 - i
       omega
      ·
       show (i + 1) ≤ 1
       show i + 1 ≤ 1; omega
      · exact Leads.keepR (KeepR.cons 0 rfl (KeepR.cons 0 rfl KeepR.nil)) ⟨rfl, rfl, rfl, trivial⟩
   ·
    replace g := of_decide_eq_false g
    refine AWP.exit ?_
    refine AWP.seq ?_
    refine AWP.region ?_
    refine Y (mv rfl) rfl ?_
    refine Y (Yields.nilCheck_ptr rfl) rfl ?_
    refine Y (Yields.fieldAddr_ptr fo69_0 rfl) rfl ?_
    refine Y (Yields.load_ptr_field (j := 1) kd46 rfl rfl rfl rfl rfl rfl rfl) rfl ?_
    refine Y (mv rfl) rfl ?_
    refine AOps.callH (.inl trivial) (oneP_AH typP b code p typesL hc (by omega) (by decide) (by decide) (fun s hs => hs)) rfl rfl rfl (WkL.refl _) ?_
    rintro _ _ ⟨s, q', h7, h8, h9, rfl, rfl⟩
    refine Y (ass rfl) rfl ?_
    refine AOps.nil ?_
    refine AWP.ret ⟨.inl rfl, ?_⟩
    exact RetH.of (rs := [.tmp 2]) (vs := [_]) rfl ⟨rfl, trivial⟩ (KeepR.cons 0 rfl (KeepR.cons 0 rfl KeepR.nil)) (⟨s, q', h7, by omega, by omega, rfl, rfl⟩)
def localL : List ByteArray := [⟨#[97]⟩, ⟨#[98]⟩, ⟨#[99]⟩, ⟨#[120]⟩, ⟨#[121]⟩, ⟨#[120, 49]⟩, ⟨#[110]⟩]
theorem local_AH (b : Nat) (code : List UInt8) (p : Nat) (hc : code.length ≤ 1048576) (hp : p ≤ 10000000000) : FnH 85 [src b code p] [.ptr (some b) 0 0 2] (srcS 24 b code p 2) := by
  refine AH.intro Tryz.func85 nm85 rfl rfl rfl fun w0 ok0 own0 => ?_
  refine AWP.seq ?_
  refine AWP.region ?_
  refine Y (ass rfl) rfl ?_
  refine AOps.nil ?_
  refine AWP.seq ?_
  refine AWP.region ?_
  refine Y (mv rfl) rfl ?_
  refine AOps.buildSlice sl27 z9 rfl rfl rfl rfl rfl fun l1 => ?_
  refine AOps.leads (Leads.freezeT 1 4 (.inl trivial) rfl (fz_strs localL rfl)) ?_
  refine AOps.callH (.inl trivial) (one_AH b code p 24 localL hc (by omega) (by decide) (by decide)) rfl rfl rfl (WkL.refl _) ?_
  rintro _ _ ⟨s, q', h7, h8, h9, rfl, rfl⟩
  refine Y (ass rfl) rfl ?_
  refine AOps.nil ?_
  refine AWP.ret ⟨.inl rfl, ?_⟩
  exact RetH.of (rs := [.tmp 2]) (vs := [_]) rfl ⟨rfl, trivial⟩ (KeepR.cons 0 rfl KeepR.nil) (⟨s, q', h7, by omega, by omega, rfl, rfl⟩)
def capP : Nat → Nat
  | 0 => 4
  | n + 1 => 6 + 2 * capP n
theorem capP_pos : ∀ n, 4 ≤ capP n
  | 0 => Nat.le_refl _
  | n + 1 => by rw [capP]; omega
def mkE (N b m : Nat) (code : List UInt8) (p : Nat) (left : Int) (calm : Bool) : AV → Hp → Prop := fun r hp' => ∃ (v : Tr) (q : Nat) (left' : Int), v.bnd 1000000 ∧ sizeT v ≤ N ∧ p ≤ q ∧ q ≤ p + N ∧ left - N ≤ left' ∧ left' ≤ left ∧ r = v.av ∧ hp' = [src b code q, mkR b m left' calm]
def plainN : List Int := [0, 1, 2, 3, 7, 40, 9999]
theorem leaf_size' (k n : Int) (t : ByteArray) (N : Nat) (h : 1 ≤ N) : sizeT (.mk k n t []) ≤ N := by simp only [sizeT, sizeTs]; omega
theorem itemOf_less {s : ByteArray} (h : isItem s = true) : (itemOf s).size + 2 ≤ s.size ∨ (itemOf s).size + 1 ≤ s.size ∧ s.size ≤ 1 := by
  have h1 : typeOkL s.data.toList = true := by simp only [isItem, Bool.and_eq_true] at h; exact h.1
  have h2 := typeOk_size h1
  unfold itemOf
  rw [if_pos h]
  simp
  omega
theorem plainW_AH (n : Nat) (t : ByteArray) (b m : Nat) (code : List UInt8) (p : Nat) (left : Int) (calm : Bool) (ht : t.size ≤ 2 * n) (ht2 : t.size ≤ 30) (hc : code.length ≤ 1048576) (hp : p + capP n ≤ 1000000) (hl : left ≤ 1000000) (hl2 : -1000000000 ≤ left - capP n)
    (ih : ∀ e, n = e + 1 → ∀ (t : ByteArray) (p : Nat) (left : Int), t.size ≤ 2 * e → t.size ≤ 30 → p + capP e ≤ 1000000 → left ≤ 1000000 → -1000000000 ≤ left - capP e → FnH 87 [src b code p, mkR b m left calm] [.ptr (some m) 0 0 5, str t] (mkE (capP e) b m code p left calm)) :
    FnH 87 [src b code p, mkR b m left calm] [.ptr (some m) 0 0 5, str t] (mkE (capP n) b m code p left calm) := by
  have hcp := capP_pos n
  refine AH.intro Tryz.func87 nm87 rfl rfl rfl fun w0 ok0 own0 => ?_
  refine AWP.seq ?_
  refine AWP.region ?_
  refine AOps.alloc rfl z25 rfl rfl fun b4 => ?_
  refine AOps.nil ?_
  refine AWP.seq ?_
  refine AWP.seq ?_
  refine AWP.region ?_
  refine Y (mv rfl) rfl ?_
  refine AOps.nil ?_
  refine AWP.block ?_
  refine AWP.seq ?_
  refine AWP.region ?_
  refine Y (bn rfl rfl BinR.seql rfl) rfl ?_
  refine Y (ass rfl) rfl ?_
  refine AOps.nil ?_
  refine AWP.condT rfl (fun c0 => ?_) (fun c0 => ?_)
  ·
   replace c0 := of_decide_eq_true c0
   refine AWP.seq ?_
   refine AWP.region ?_
   refine AOps.buildSlice sl32 z3 rfl rfl rfl rfl rfl fun l2 => ?_
   refine AOps.leads (Leads.rowEq 0 rfl (show _ = ints plainN from rfl)) ?_
   refine Y (mv rfl) rfl ?_
   refine Y (Yields.nilCheck_ptr rfl) rfl ?_
   refine Y (Yields.fieldAddr_ptr fo69_0 rfl) rfl ?_
   refine Y (Yields.load_ptr_field (j := 3) kd46 rfl rfl rfl rfl rfl rfl rfl) rfl ?_
   refine AOps.leads (Leads.pull 2 rfl) ?_
   refine AOps.callH (.inl trivial) (pick_AH b code p 7 hc (by omega) (by omega) (by omega)) rfl rfl rfl (WkL.refl _) ?_
   rintro _ _ ⟨m1, q1, k1, k2, k3, k4, rfl, rfl⟩
   obtain ⟨x, hx, _⟩ := drop_at (l := plainN) (i := m1.toNat) (by show m1.toNat < 7; omega)
   refine Y (Yields.idx_locN sl32 rfl rfl (j := m1.toNat) (by omega) (by omega)) rfl ?_
   refine Y (Yields.load_ptr_one (j := 1) kd3 rfl rfl (by rw [Nat.zero_add]; exact ints_at hx) rfl rfl) rfl ?_
   refine Y (Yields.build pl25 z25 rfl rfl) rfl ?_
   refine AOps.store (j := 2) kd25 rfl rfl rfl rfl rfl rfl ?_
   refine AOps.nil ?_
   refine AWP.leads (Leads.rowWk 2 0 rfl rfl (wk_leaf _ _ _)) ?_
   refine AWP.ret ⟨.inl rfl, ?_⟩
   exact RetH.of (rs := [.cell 4 25]) (vs := [_]) rfl ⟨resOne.cell (j := 2) rfl rfl kd25 rfl rfl rfl, trivial⟩ (KeepR.cons 0 rfl (KeepR.cons 2 rfl KeepR.nil)) (⟨.mk 0 x ⟨#[]⟩ [], q1, left, leaf_bnd _ _ _ (by decide), leaf_size' _ _ _ _ (by omega), by omega, by omega, by omega, by omega, rfl, rfl⟩)
  ·
   replace c0 := of_decide_eq_false c0
   refine AWP.seq ?_
   refine AWP.region ?_
   refine Y (bn rfl rfl BinR.seql rfl) rfl ?_
   refine Y (ass rfl) rfl ?_
   refine AOps.nil ?_
   refine AWP.condT rfl (fun c1 => ?_) (fun c1 => ?_)
   ·
    replace c1 := of_decide_eq_true c1
    refine AWP.seq ?_
    refine AWP.region ?_
    refine Y (mv rfl) rfl ?_
    refine Y (Yields.nilCheck_ptr rfl) rfl ?_
    refine Y (Yields.fieldAddr_ptr fo69_0 rfl) rfl ?_
    refine Y (Yields.load_ptr_field (j := 2) kd46 rfl rfl rfl rfl rfl rfl rfl) rfl ?_
    refine AOps.leads (Leads.pull 1 rfl) ?_
    refine AOps.callH (.inl trivial) (pick_AH b code p 2 hc (by omega) (by omega) (by omega)) rfl rfl rfl (WkL.refl _) ?_
    rintro _ _ ⟨m1, q1, k1, k2, k3, k4, rfl, rfl⟩
    refine Y (Yields.build pl25 z25 rfl rfl) rfl ?_
    refine AOps.store (j := 1) kd25 rfl rfl rfl rfl rfl rfl ?_
    refine AOps.nil ?_
    refine AWP.leads (Leads.rowWk 1 0 rfl rfl (wk_leaf _ _ _)) ?_
    refine AWP.ret ⟨.inl rfl, ?_⟩
    exact RetH.of (rs := [.cell 4 25]) (vs := [_]) rfl ⟨resOne.cell (j := 1) rfl rfl kd25 rfl rfl rfl, trivial⟩ (KeepR.cons 0 rfl (KeepR.cons 1 rfl KeepR.nil)) (⟨.mk 1 m1 ⟨#[]⟩ [], q1, left, leaf_bnd _ _ _ (by decide), leaf_size' _ _ _ _ (by omega), by omega, by omega, by omega, by omega, rfl, rfl⟩)
   ·
    replace c1 := of_decide_eq_false c1
    refine AWP.seq ?_
    refine AWP.region ?_
    refine Y (bn rfl rfl BinR.seql rfl) rfl ?_
    refine Y (ass rfl) rfl ?_
    refine AOps.nil ?_
    refine AWP.condT rfl (fun c2 => ?_) (fun c2 => ?_)
    ·
     replace c2 := of_decide_eq_true c2
     refine AWP.seq ?_
     refine AWP.region ?_
     refine Y (mv rfl) rfl ?_
     refine Y (Yields.nilCheck_ptr rfl) rfl ?_
     refine Y (Yields.fieldAddr_ptr fo69_0 rfl) rfl ?_
     refine Y (Yields.load_ptr_field (j := 2) kd46 rfl rfl rfl rfl rfl rfl rfl) rfl ?_
     refine AOps.leads (Leads.pull 1 rfl) ?_
     refine AOps.callH (.inl trivial) (text_AH b code p hc (by omega)) rfl rfl rfl (WkL.refl _) ?_
     rintro _ _ ⟨s, q1, k2, k3, k4, rfl, rfl⟩
     refine Y (Yields.build pl25 z25 rfl rfl) rfl ?_
     refine AOps.store (j := 1) kd25 rfl rfl rfl rfl rfl rfl ?_
     refine AOps.nil ?_
     refine AWP.leads (Leads.rowWk 1 0 rfl rfl (wk_leaf _ _ _)) ?_
     refine AWP.ret ⟨.inl rfl, ?_⟩
     exact RetH.of (rs := [.cell 4 25]) (vs := [_]) rfl ⟨resOne.cell (j := 1) rfl rfl kd25 rfl rfl rfl, trivial⟩ (KeepR.cons 0 rfl (KeepR.cons 1 rfl KeepR.nil)) (⟨.mk 2 0 s [], q1, left, leaf_bnd _ _ _ (by omega), leaf_size' _ _ _ _ (by omega), by omega, by omega, by omega, by omega, rfl, rfl⟩)
    ·
     replace c2 := of_decide_eq_false c2
     refine AWP.skip ?_
     refine AWP.seq ?_
     refine AWP.seq ?_
     refine AWP.region ?_
     refine Y (mv rfl) rfl ?_
     refine AOps.callro (sTypeItem_AF t (by omega)) rfl rfl rfl ?_
     refine Y (mv rfl) rfl ?_
     refine Y (Yields.extract rfl rfl) rfl ?_
     refine Y (Yields.extract rfl rfl) rfl ?_
     refine Y (ass rfl) rfl ?_
     refine Y (ass rfl) rfl ?_
     refine AOps.nil ?_
     refine AWP.seq ?_
     refine AWP.region ?_
     refine Y (mv rfl) rfl ?_
     refine AOps.nil ?_
     refine AWP.condT rfl (fun c3 => ?_) (fun c3 => ?_)
     ·
      skip
      refine AWP.seq ?_
      refine AWP.region ?_
      have hit := itemOf_less c3
      obtain ⟨e, he⟩ : ∃ e, n = e + 1 := ⟨n - 1, by omega⟩
      have hce : capP n = 6 + 2 * capP e := by rw [he, capP]
      have hpe := capP_pos e
      refine Y (mv rfl) rfl ?_
      refine Y (Yields.build pl25 z25 rfl rfl) rfl ?_
      refine AOps.alloc rfl z25 rfl rfl fun b7 => ?_
      refine AOps.store (j := 0) kd25 rfl rfl rfl rfl rfl rfl ?_
      refine AOps.nil ?_
      refine AWP.seq ?_
      refine AWP.seq ?_
      refine AWP.region ?_
      refine Y (mv rfl) rfl ?_
      refine Y (Yields.nilCheck_ptr rfl) rfl ?_
      refine Y (Yields.fieldAddr_ptr fo69_0 rfl) rfl ?_
      refine Y (Yields.load_ptr_field (j := 3) kd46 rfl rfl rfl rfl rfl rfl rfl) rfl ?_
      refine AOps.leads (Leads.pull 2 rfl) ?_
      refine AOps.callH (.inl trivial) (pick_AH b code p 3 hc (by omega) (by omega) (by omega)) rfl rfl rfl (WkL.refl _) ?_
      rintro _ _ ⟨m1, q1, k1, k2, k3, k4, rfl, rfl⟩
      refine Y (ass rfl) rfl ?_
      refine AOps.nil ?_
      refine AWP.leads (Leads.rowWk 1 0 rfl rfl (Wk.agg (ps := [_, _, _, .loc none 0 0 0 4]) ⟨Wk.refl _, Wk.refl _, Wk.refl _, Wk.nilLoc (n := 4), trivial⟩)) ?_
      refine AWP.leads (Leads.row0 4) ?_
      refine AWP.block ?_
      refine AWP.loopV (α := Option Nat × List Tr × Nat × Int × Int) (fun pp : Option Nat × List Tr × Nat × Int × Int => match pp with | (B, l, q, k, lf) => ⟨[(0, .ptr (some m) 0 0 5), (4, .ptr (some b4) 0 0 4), (5, str (itemOf t)), (7, .ptr (some b7) 0 0 4), (8, int k)], [src b code q, mkR b m lf calm, (some b7, ⟨4, [.agg [int 7, int 0, str (itemOf t), .loc B 0 l.length l.length 4]]⟩), (B, ⟨4, Tr.avs l⟩), (some b4, ⟨4, [zero4]⟩)]⟩) (fun pp : Option Nat × List Tr × Nat × Int × Int => match pp with | (B, l, q, k, lf) => 0 ≤ k ∧ l.length + k ≤ 2 ∧ Tr.bnds 1000000 l ∧ sizeTs l ≤ l.length * capP e ∧ p ≤ q ∧ q ≤ p + 2 + l.length * capP e ∧ left - l.length * (1 + capP e) ≤ lf ∧ lf ≤ left) (fun pp : Option Nat × List Tr × Nat × Int × Int => match pp with | (B, l, q, k, lf) => k.toNat) ((none, [], q1, m1, left)) ?_ ?_ ?_
      · exact Leads.keepR (KeepR.cons 1 rfl (KeepR.cons 3 rfl (KeepR.cons 1 rfl (KeepR.cons 0 rfl (KeepR.cons 0 rfl KeepR.nil))))) ⟨rfl, rfl, rfl, rfl, rfl, trivial⟩
      ·
       show 0 ≤ m1 ∧ ([]).length + m1 ≤ 2 ∧ Tr.bnds 1000000 ([]) ∧ sizeTs ([]) ≤ ([]).length * capP e ∧ p ≤ q1 ∧ q1 ≤ p + 2 + ([]).length * capP e ∧ left - ([]).length * (1 + capP e) ≤ left ∧ left ≤ left
       exact ⟨k1, by simp; omega, trivial, by simp [sizeTs], by omega, by simp; omega, by simp, by omega⟩
      ·
       rintro ⟨B, l, q, k, lf⟩ hinv
       replace hinv : 0 ≤ k ∧ l.length + k ≤ 2 ∧ Tr.bnds 1000000 l ∧ sizeTs l ≤ l.length * capP e ∧ p ≤ q ∧ q ≤ p + 2 + l.length * capP e ∧ left - l.length * (1 + capP e) ≤ lf ∧ lf ≤ left := hinv
       show AWP _ _ _ _ ⟨[(0, .ptr (some m) 0 0 5), (4, .ptr (some b4) 0 0 4), (5, str (itemOf t)), (7, .ptr (some b7) 0 0 4), (8, int k)], [src b code q, mkR b m lf calm, (some b7, ⟨4, [.agg [int 7, int 0, str (itemOf t), .loc B 0 l.length l.length 4]]⟩), (B, ⟨4, Tr.avs l⟩), (some b4, ⟨4, [zero4]⟩)]⟩
       refine AWP.seq ?_
       refine AWP.seq ?_
       refine AWP.region ?_
       obtain ⟨hn, hln, hlb, hls, hq1, hq2, hf1, hf2⟩ := hinv
       refine Y (mv rfl) rfl ?_
       refine Y (bn rfl rfl BinR.gtr rfl) rfl ?_
       refine Y (mv rfl) rfl ?_
       refine AOps.split 56 rfl (fun c4 => ?_) (fun c4 => ?_)
       ·
        replace c4 := of_decide_eq_true c4
        refine AOps.on rfl rfl ?_
        refine Y (mv rfl) rfl ?_
        refine AOps.on rfl rfl ?_
        refine Y (Yields.nilCheck_ptr rfl) rfl ?_
        refine AOps.on rfl rfl ?_
        refine Y (Yields.fieldAddr_ptr fo69_3 rfl) rfl ?_
        refine AOps.on rfl rfl ?_
        refine Y (Yields.load_ptr_field (j := 1) kd3 rfl rfl rfl rfl rfl rfl rfl) rfl ?_
        refine AOps.on rfl rfl ?_
        refine Y (bn rfl rfl BinR.gtr rfl) rfl ?_
        refine Y (Yields.pick_true rfl rfl) rfl ?_
        refine AOps.nil ?_
        refine AWP.condT rfl (fun c5 => ?_) (fun c5 => ?_)
        ·
         replace c5 := of_decide_eq_true c5
         have hlc1 : l.length * capP e ≤ 1 * capP e := Nat.mul_le_mul_right _ (by omega)
         have hlf1 : (l.length : Int) * (1 + capP e) ≤ 1 * (1 + capP e) := Int.mul_le_mul_of_nonneg_right (by omega) (by omega)
         refine AWP.skip ?_
         refine AWP.seq ?_
         refine AWP.block ?_
         refine AWP.seq ?_
         refine AWP.region ?_
         refine Y (mv rfl) rfl ?_
         refine Y (mv rfl) rfl ?_
         refine Y (Yields.nilCheck_ptr rfl) rfl ?_
         refine Y (Yields.fieldAddr_ptr fo69_3 rfl) rfl ?_
         refine Y (Yields.load_ptr_field (j := 1) kd3 rfl rfl rfl rfl rfl rfl rfl) rfl ?_
         refine Y (bn rfl rfl (BinR.subI (by omega) (by omega)) rfl) rfl ?_
         refine Y (Yields.nilCheck_ptr rfl) rfl ?_
         refine Y (Yields.fieldAddr_ptr fo69_3 rfl) rfl ?_
         refine AOps.storeField (j := 1) kd3 rfl rfl rfl rfl rfl rfl rfl ?_
         refine AOps.nil ?_
         refine AWP.prune (tm' := [(0, _), (4, _), (5, _), (7, _), (8, _), (62, _)]) ⟨rfl, rfl, rfl, rfl, rfl, rfl, trivial⟩ ?_
         refine AWP.drawnM [] [.pure 0, .pure 1, .pure 2, .pure 3, .spine 4 [] [2, 3], .pure 5, .spine 6 [5] [0, 1, 2, 3, 4, 5], .pure 7, .spine 8 [] [0, 1, 2, 3, 4, 5, 6, 7]] mixed rfl rfl rfl rfl rfl ?_
         refine DM.pure (GX (tm' := [(7, _)]) rfl ⟨rfl, trivial⟩ rfl (DStep.yields (Yields.fieldAddr_ptr fo25_3 rfl)) rfl) ?_
         refine DM.pure (GX (tm' := [(73, _)]) rfl ⟨rfl, trivial⟩ rfl (DStep.yields (Yields.load_ptr_field (j := 2) kd23 rfl rfl rfl rfl rfl rfl rfl)) rfl) ?_
         refine DM.pure (GX (tm' := [(0, _)]) rfl ⟨rfl, trivial⟩ rfl (DStep.yields (mv rfl)) rfl) ?_
         refine DM.pure (GX (tm' := [(5, _)]) rfl ⟨rfl, trivial⟩ rfl (DStep.yields (mv rfl)) rfl) ?_
         refine DM.sp rfl rfl ?_
         refine DOpen.nil fun _ _ _ => ?_
         refine AOps.subT (tm' := [(75, _), (76, _)]) ⟨rfl, rfl, trivial⟩ ?_
         refine AOps.leads (Leads.pull 1 rfl) ?_
         refine AOps.leads (Leads.pull 1 rfl) ?_
         refine AOps.callH (.inl trivial) (ih e he (itemOf t) q (lf - 1) (by omega) (by omega) (by omega) (by omega) (by omega)) rfl rfl rfl (WkL.refl _) ?_
         rintro _ _ ⟨⟨vk, vn, vt, vks⟩, q2, lf2, w1, w2, w3, w4, w5, w6, rfl, rfl⟩
         refine AOps.nil ?_
         refine SpK.mk rfl rfl ?_ ?_
         ·
          skip
          refine Stab.skip rfl ?_
          refine Stab.skip rfl ?_
          refine Stab.skip rfl ?_
          refine Stab.keep (GX (tm' := [(73, _)]) rfl ⟨rfl, trivial⟩ rfl (DStep.yields (Yields.load_ptr_field (j := 2) kd23 rfl rfl rfl rfl rfl rfl rfl)) rfl) ?_
          refine Stab.keep (GX (tm' := [(7, _)]) rfl ⟨rfl, trivial⟩ rfl (DStep.yields (Yields.fieldAddr_ptr fo25_3 rfl)) rfl) ?_
          exact trivial
         refine DM.pure (GXs (tm' := [(77, _)]) rfl ⟨rfl, trivial⟩ rfl rfl (DStepU.buildSlice sl23 z25 rfl rfl rfl rfl) rfl) ?_
         refine DM.sp rfl rfl ?_
         refine DOpen.own rfl fun Bs => ?_
         refine DOpen.nil fun _ _ _ => ?_
         refine AOps.subT (tm' := [(74, _), (78, _)]) ⟨rfl, rfl, trivial⟩ ?_
         refine AOps.appendE (j := 4) sl23 z25 rfl rfl rfl rfl rfl (Tr.avs_length l) rfl (src_row (j2 := 0) rfl rfl rfl) (show l.length + 1 = (l ++ [Tr.mk vk vn vt vks]).length by simp) (avs_snoc l (.mk vk vn vt vks)) (by simp; omega) (by simp; omega) fun Bn => ?_
         refine AOps.nil ?_
         refine SpK.mk rfl rfl (Stab.all rfl) ?_
         refine DM.pure (GX (tm' := [(7, _)]) rfl ⟨rfl, trivial⟩ rfl (DStep.yields (Yields.fieldAddr_ptr fo25_3 rfl)) rfl) ?_
         refine DM.sp rfl rfl ?_
         refine DOpen.nil fun _ _ _ => ?_
         refine AOps.subT (tm' := [(80, _), (79, _)]) ⟨rfl, rfl, trivial⟩ ?_
         refine AOps.storeField (j := 3) kd23 rfl rfl rfl rfl rfl rfl rfl ?_
         refine AOps.nil ?_
         refine SpK.mk0 (Stab.all rfl) ?_
         refine DM.nil ?_
         refine AWP.region ?_
         refine Y (mv rfl) rfl ?_
         refine Y (bn rfl rfl (BinR.subI (by omega) (by omega)) rfl) rfl ?_
         refine Y (ass rfl) rfl ?_
         refine AOps.nil ?_
         refine ⟨(Bn, l ++ [Tr.mk vk vn vt vks], q2, k - 1, lf2), ?_, ?_, ?_⟩
         ·
          show (k - 1).toNat < k.toNat
          omega
         ·
          show 0 ≤ (k - 1) ∧ (l ++ [Tr.mk vk vn vt vks]).length + (k - 1) ≤ 2 ∧ Tr.bnds 1000000 (l ++ [Tr.mk vk vn vt vks]) ∧ sizeTs (l ++ [Tr.mk vk vn vt vks]) ≤ (l ++ [Tr.mk vk vn vt vks]).length * capP e ∧ p ≤ q2 ∧ q2 ≤ p + 2 + (l ++ [Tr.mk vk vn vt vks]).length * capP e ∧ left - (l ++ [Tr.mk vk vn vt vks]).length * (1 + capP e) ≤ lf2 ∧ lf2 ≤ left
          exact ⟨by omega, by simp; omega, bnds_snoc hlb w1, by rw [sizeTs_snoc, List.length_append, List.length_singleton, Int.natCast_add, Int.add_mul]; simp; omega, by omega, by rw [List.length_append, List.length_singleton, Nat.add_mul]; omega, by rw [List.length_append, List.length_singleton, Int.natCast_add, Int.add_mul]; simp; omega, by omega⟩
         · exact Leads.keepR (KeepR.cons 1 rfl (KeepR.cons 1 rfl (KeepR.cons 1 rfl (KeepR.cons 1 rfl (KeepR.cons 1 rfl KeepR.nil))))) ⟨rfl, rfl, rfl, rfl, rfl, trivial⟩
        ·
         replace c5 := of_decide_eq_false c5
         refine AWP.exit ?_
         refine AWP.seq ?_
         refine AWP.region ?_
         refine Y (Yields.load_ptr_agg (j := 2) kd25 rfl rfl rfl rfl) rfl ?_
         refine AOps.leads (Leads.pull 3 rfl) ?_
         refine AOps.leads (Leads.freezeT 1 81 (.inl trivial) rfl (fz_node rfl)) ?_
         have hls2 : (l.length : Int) * capP e ≤ 2 * capP e := Int.mul_le_mul_of_nonneg_right (by omega) (by omega)
         have hlc2 : l.length * capP e ≤ 2 * capP e := Nat.mul_le_mul_right _ (by omega)
         have hlf2 : (l.length : Int) * (1 + capP e) ≤ 2 * (1 + capP e) := Int.mul_le_mul_of_nonneg_right (by omega) (by omega)
         refine AOps.store (j := 3) kd25 rfl rfl rfl rfl rfl rfl ?_
         refine AOps.nil ?_
         refine AWP.ret ⟨.inl rfl, ?_⟩
         exact RetH.of (rs := [.cell 4 25]) (vs := [_]) rfl ⟨resOne.cell (j := 3) rfl rfl kd25 rfl rfl rfl, trivial⟩ (KeepR.cons 0 rfl (KeepR.cons 0 rfl KeepR.nil)) (⟨.mk 7 0 (itemOf t) l, q, lf, ⟨by omega, by omega, hlb⟩, by rw [sizeT]; omega, by omega, by omega, by omega, by omega, rfl, rfl⟩)
       ·
        replace c4 := of_decide_eq_false c4
        refine AOps.off' rfl rfl rfl rfl ?_
        refine AOps.off' rfl rfl rfl rfl ?_
        refine AOps.off' rfl rfl rfl rfl ?_
        refine AOps.off' rfl rfl rfl rfl ?_
        refine AOps.off' rfl rfl rfl rfl ?_
        refine Y (Yields.pick_false rfl rfl) rfl ?_
        refine AOps.nil ?_
        refine AWP.cond rfl (fun h => absurd h (by decide)) (fun _ => ?_)
        refine AWP.exit ?_
        refine AWP.seq ?_
        refine AWP.region ?_
        refine Y (Yields.load_ptr_agg (j := 2) kd25 rfl rfl rfl rfl) rfl ?_
        refine AOps.leads (Leads.pull 3 rfl) ?_
        refine AOps.leads (Leads.freezeT 1 81 (.inl trivial) rfl (fz_node rfl)) ?_
        have hls2 : (l.length : Int) * capP e ≤ 2 * capP e := Int.mul_le_mul_of_nonneg_right (by omega) (by omega)
        have hlc2 : l.length * capP e ≤ 2 * capP e := Nat.mul_le_mul_right _ (by omega)
        have hlf2 : (l.length : Int) * (1 + capP e) ≤ 2 * (1 + capP e) := Int.mul_le_mul_of_nonneg_right (by omega) (by omega)
        refine AOps.store (j := 3) kd25 rfl rfl rfl rfl rfl rfl ?_
        refine AOps.nil ?_
        refine AWP.ret ⟨.inl rfl, ?_⟩
        exact RetH.of (rs := [.cell 4 25]) (vs := [_]) rfl ⟨resOne.cell (j := 3) rfl rfl kd25 rfl rfl rfl, trivial⟩ (KeepR.cons 0 rfl (KeepR.cons 0 rfl KeepR.nil)) (⟨.mk 7 0 (itemOf t) l, q, lf, ⟨by omega, by omega, hlb⟩, by rw [sizeT]; omega, by omega, by omega, by omega, by omega, rfl, rfl⟩)
     ·
      skip
      refine AWP.skip ?_
      refine AWP.seq ?_
      refine AWP.region ?_
      refine Y (mv rfl) rfl ?_
      refine Y (Yields.nilCheck_ptr rfl) rfl ?_
      refine Y (Yields.fieldAddr_ptr fo69_1 rfl) rfl ?_
      refine Y (Yields.load_ptr_field (j := 2) kd48 rfl rfl rfl rfl rfl rfl rfl) rfl ?_
      refine Y (mv rfl) rfl ?_
      refine AOps.callH (.inl trivial) (record_AH t) rfl rfl rfl (WkL.refl _) ?_
      rintro _ _ ⟨rfl, rfl⟩
      refine Y (mv rfl) rfl ?_
      refine Y (Yields.extract rfl rfl) rfl ?_
      refine Y (Yields.extract rfl rfl) rfl ?_
      refine AOps.alloc rfl z84 rfl rfl fun b9 => ?_
      refine AOps.store (j := 0) kd84 rfl rfl rfl rfl rfl rfl ?_
      refine Y (ass rfl) rfl ?_
      refine AOps.nil ?_
      refine AWP.seq ?_
      refine AWP.region ?_
      refine Y (mv rfl) rfl ?_
      refine Y (Yields.build pl25 z25 rfl rfl) rfl ?_
      refine AOps.alloc rfl z25 rfl rfl fun b11 => ?_
      refine AOps.store (j := 0) kd25 rfl rfl rfl rfl rfl rfl ?_
      refine AOps.nil ?_
      refine AWP.seq ?_
      refine AWP.seq ?_
      refine AWP.region ?_
      refine Y (ass rfl) rfl ?_
      refine AOps.nil ?_
      refine AWP.block ?_
      refine AWP.loopV (α := Nat) (fun j : Nat => ⟨[(0, .ptr (some m) 0 0 5), (4, .ptr (some b4) 0 0 4), (9, .ptr (some b9) 0 0 8), (11, .ptr (some b11) 0 0 4), (12, int j)], [(some b11, ⟨4, [.agg [int 5, int 0, str t, .val (.slice none 0 0)]]⟩), (some b9, ⟨8, [declR zeroD]⟩), src b code p, mkR b m left calm, (some b4, ⟨4, [zero4]⟩)]⟩) (fun j : Nat => True) (fun j : Nat => j) (0) ?_ ?_ ?_
      · exact Leads.keepR (KeepR.cons 0 rfl (KeepR.cons 0 rfl (KeepR.cons 1 rfl (KeepR.cons 1 rfl (KeepR.cons 0 rfl KeepR.nil))))) ⟨rfl, rfl, rfl, rfl, rfl, trivial⟩
      ·
       show True
       trivial
      ·
       rintro j hinv
       refine AWP.seq ?_
       refine AWP.seq ?_
       refine AWP.region ?_
       refine Y (mv rfl) rfl ?_
       refine Y (Yields.fieldAddr_ptr fo84_2 rfl) rfl ?_
       refine Y (Yields.load_ptr_field (j := 1) kd82 rfl rfl rfl rfl rfl rfl rfl) rfl ?_
       refine Y (Yields.len_ro sl82 rfl) rfl ?_
       refine Y (bn rfl rfl BinR.lss rfl) rfl ?_
       refine AOps.nil ?_
       refine AWP.condT rfl (fun g2 => ?_) (fun g2 => ?_)
       ·
        replace g2 := of_decide_eq_true g2
        simp [zeroD, bindsV] at g2; omega
       ·
        replace g2 := of_decide_eq_false g2
        refine AWP.exit ?_
        refine AWP.seq ?_
        refine AWP.region ?_
        refine Y (Yields.load_ptr_agg (j := 0) kd25 rfl rfl rfl rfl) rfl ?_
        refine AOps.store (j := 4) kd25 rfl rfl rfl rfl rfl rfl ?_
        refine AOps.nil ?_
        refine AWP.leads (Leads.rowWk 4 0 rfl rfl (wk_leaf _ _ _)) ?_
        refine AWP.ret ⟨.inl rfl, ?_⟩
        exact RetH.of (rs := [.cell 4 25]) (vs := [_]) rfl ⟨resOne.cell (j := 4) rfl rfl kd25 rfl rfl rfl, trivial⟩ (KeepR.cons 2 rfl (KeepR.cons 2 rfl KeepR.nil)) (⟨.mk 5 0 t [], p, left, leaf_bnd _ _ _ (by omega), leaf_size' _ _ _ _ (by omega), by omega, by omega, by omega, by omega, rfl, rfl⟩)
theorem plain_AH : ∀ (n : Nat) (t : ByteArray) (b m : Nat) (code : List UInt8) (p : Nat) (left : Int) (calm : Bool) (ht : t.size ≤ 2 * n) (ht2 : t.size ≤ 30) (hc : code.length ≤ 1048576) (hp : p + capP n ≤ 1000000) (hl : left ≤ 1000000) (hl2 : -1000000000 ≤ left - capP n),
    FnH 87 [src b code p, mkR b m left calm] [.ptr (some m) 0 0 5, str t] (mkE (capP n) b m code p left calm)
  | 0, t, b, m, code, p, left, calm, ht, ht2, hc, hp, hl, hl2 => plainW_AH 0 t b m code p left calm ht ht2 hc hp hl hl2 (fun e h => by omega)
  | n + 1, t, b, m, code, p, left, calm, ht, ht2, hc, hp, hl, hl2 => plainW_AH (n + 1) t b m code p left calm ht ht2 hc hp hl hl2 (fun e h t' p' left' h1 h2 h3 h4 h5 => by
    have : e = n := by omega
    subst this
    exact plain_AH e t' b m code p' left' calm h1 h2 hc h3 h4 h5)
theorem record_AF (s : ByteArray) : Fn 119 [progV, str s] (.tup [declR zeroD, bool false]) := AH.toF rfl (record_AH s) (fun r hp' h => isV.fz rfl h)
theorem fields_AH (bs : Binds) (t : ByteArray) (b m : Nat) (code : List UInt8) (p : Nat) (left : Int) (calm : Bool) (hbs : bs.length ≤ 1000) : FnH 101 [src b code p, mkR b m left calm] [.ptr (some m) 0 0 5, str t, .ro 2 (bindsV bs) [] false] (fun r hp' => r = .tup [Tr.av (.mk 0 0 ⟨#[]⟩ []), bool false] ∧ hp' = [src b code p, mkR b m left calm]) := by
  have hlb := bindsV_length bs
  refine AH.intro Tryz.func101 nm101 rfl rfl rfl fun w0 ok0 own0 => ?_
  refine AWP.seq ?_
  refine AWP.region ?_
  refine AOps.alloc rfl z25 rfl rfl fun b6 => ?_
  refine Y (ass rfl) rfl ?_
  refine AOps.nil ?_
  refine AWP.seq ?_
  refine AWP.seq ?_
  refine AWP.region ?_
  refine Y (mv rfl) rfl ?_
  refine Y (Yields.len_ro sl82 rfl) rfl ?_
  refine Y (bn rfl rfl (BinR.subI (by omega) (by omega)) rfl) rfl ?_
  refine Y (ass rfl) rfl ?_
  refine AOps.nil ?_
  refine AWP.block ?_
  refine AWP.loopV (α := Int) (fun k : Int => ⟨[(0, .ptr (some m) 0 0 5), (1, str t), (2, .ro 2 (bindsV bs) [] false), (6, .ptr (some b6) 0 0 4), (8, int k)], [src b code p, mkR b m left calm, (some b6, ⟨4, [zero4]⟩)]⟩) (fun k : Int => -1 ≤ k ∧ k < bs.length) (fun k : Int => (k + 1).toNat) (((bindsV bs).length : Int) - 1) ?_ ?_ ?_
  · exact Leads.keepR (KeepR.cons 1 rfl (KeepR.cons 1 rfl (KeepR.cons 0 rfl KeepR.nil))) ⟨rfl, rfl, rfl, rfl, rfl, trivial⟩
  ·
   show -1 ≤ (((bindsV bs).length : Int) - 1) ∧ (((bindsV bs).length : Int) - 1) < bs.length
   exact ⟨by omega, by omega⟩
  ·
   rintro k hinv
   refine AWP.seq ?_
   refine AWP.seq ?_
   refine AWP.region ?_
   obtain ⟨hk1, hk2⟩ := hinv
   refine Y (mv rfl) rfl ?_
   refine Y (bn rfl rfl BinR.geq rfl) rfl ?_
   refine AOps.nil ?_
   refine AWP.condT rfl (fun g => ?_) (fun g => ?_)
   ·
    replace g := of_decide_eq_true g
    obtain ⟨x, hx, _⟩ := drop_at (l := bs) (i := k.toNat) (by omega)
    refine AWP.skip ?_
    refine AWP.seq ?_
    refine AWP.block ?_
    refine AWP.seq ?_
    refine AWP.prune (tm' := [(0, _), (1, _), (2, _), (6, _), (8, _), (16, _)]) ⟨rfl, rfl, rfl, rfl, rfl, rfl, trivial⟩ ?_
    refine AWP.drawnM [] [.pure 0, .pure 1, .pure 2, .pure 3, .pure 4, .pure 5, .pure 6, .pure 7, .pure 8, .pure 9, .pure 10, .pure 11, .pure 12, .pure 13, .spine 14 [13] [0, 1, 2, 3, 4, 5, 6, 7, 8, 9, 10, 11, 13], .pure 15] mixed rfl rfl rfl rfl rfl ?_
    refine DM.pure (GX (tm' := [(0, _)]) rfl ⟨rfl, trivial⟩ rfl (DStep.yields (mv rfl)) rfl) ?_
    refine DM.pure (GX (tm' := [(20, _)]) rfl ⟨rfl, trivial⟩ rfl (DStep.yields (Yields.nilCheck_ptr rfl)) rfl) ?_
    refine DM.pure (GX (tm' := [(21, _)]) rfl ⟨rfl, trivial⟩ rfl (DStep.yields (Yields.fieldAddr_ptr fo69_1 rfl)) rfl) ?_
    refine DM.pure (GX (tm' := [(22, _)]) rfl ⟨rfl, trivial⟩ rfl (DStep.yields (Yields.load_ptr_field (j := 1) kd48 rfl rfl rfl rfl rfl rfl rfl)) rfl) ?_
    refine DM.pure (GX (tm' := [(2, _)]) rfl ⟨rfl, trivial⟩ rfl (DStep.yields (mv rfl)) rfl) ?_
    refine DM.pure (GX (tm' := [(8, _)]) rfl ⟨rfl, trivial⟩ rfl (DStep.yields (mv rfl)) rfl) ?_
    refine DM.pure (GX (tm' := [(24, _), (25, _)]) rfl ⟨rfl, rfl, trivial⟩ rfl (DStep.yields (Yields.idx_roN sl82 rfl rfl rfl (j := k.toNat) (by omega) (by omega))) rfl) ?_
    refine DM.pure (GX (tm' := [(26, _)]) rfl ⟨rfl, trivial⟩ rfl (DStep.yields (Yields.fieldAddr_rop fo89_1 rfl)) rfl) ?_
    refine DM.pure (GX (tm' := [(27, _)]) rfl ⟨rfl, trivial⟩ rfl (DStep.yields (Yields.load_rop_field kd9 rfl rfl (bindsV_at hx) rfl rfl)) rfl) ?_
    refine DM.pure (GX (tm' := [(23, _), (28, _)]) rfl ⟨rfl, rfl, trivial⟩ rfl (DStep.callro (record_AF x.2) rfl rfl) rfl) ?_
    refine DM.pure (GX (tm' := [(29, _)]) rfl ⟨rfl, trivial⟩ rfl (DStep.yields (mv rfl)) rfl) ?_
    refine DM.pure (GX (tm' := [(19, _)]) rfl ⟨rfl, trivial⟩ rfl (DStep.yields (Yields.extract rfl rfl)) rfl) ?_
    refine DM.pure (GX (tm' := [(19, _)]) rfl ⟨rfl, trivial⟩ rfl (DStep.yields (Yields.extract rfl rfl)) rfl) ?_
    refine DM.pure (GXs (tm' := []) rfl trivial rfl rfl (DStepU.alloc z84 rfl rfl) rfl) ?_
    refine DM.sp rfl rfl ?_
    refine DOpen.optr rfl fun b9 => ?_
    refine DOpen.nil fun _ _ _ => ?_
    refine AOps.subT (tm' := [(9, _), (30, _)]) ⟨rfl, rfl, trivial⟩ ?_
    refine AOps.store (j := 0) kd84 rfl rfl rfl rfl rfl rfl ?_
    refine AOps.nil ?_
    refine SpK.mk0 ?_ ?_
    ·
     skip
     refine Stab.skip rfl ?_
     refine Stab.keep (GX (tm' := [(19, _)]) rfl ⟨rfl, trivial⟩ rfl (DStep.yields (Yields.extract rfl rfl)) rfl) ?_
     refine Stab.skip rfl ?_
     refine Stab.skip rfl ?_
     refine Stab.skip rfl ?_
     refine Stab.skip rfl ?_
     refine Stab.skip rfl ?_
     refine Stab.skip rfl ?_
     refine Stab.skip rfl ?_
     refine Stab.skip rfl ?_
     refine Stab.skip rfl ?_
     refine Stab.skip rfl ?_
     refine Stab.skip rfl ?_
     refine Stab.skip rfl ?_
     exact trivial
    refine DM.pure (GX (tm' := [(31, _)]) rfl ⟨rfl, trivial⟩ rfl (DStep.yields (ass rfl)) rfl) ?_
    refine DM.nil ?_
    refine AWP.seq ?_
    refine AWP.seq ?_
    refine AWP.prune (tm' := [(0, _), (1, _), (2, _), (6, _), (8, _), (16, _), (9, _), (10, _)]) ⟨rfl, rfl, rfl, rfl, rfl, rfl, rfl, rfl, trivial⟩ ?_
    refine AWP.drawn mixed rfl rfl ?_
    refine D (tm' := [(10, _)]) ⟨rfl, trivial⟩ (DStep.yields (mv rfl)) rfl ?_
    refine D (tm' := [(32, _)]) ⟨rfl, trivial⟩ (DStep.yields (Yields.not rfl)) rfl ?_
    refine D (tm' := [(33, _)]) ⟨rfl, trivial⟩ (DStep.yields (mv rfl)) rfl ?_
    refine DOps.split 2 rfl (fun c => ?_) (fun c => ?_)
    ·
     skip
     refine DOps.off rfl rfl rfl rfl ?_
     refine DOps.off rfl rfl rfl rfl ?_
     refine DOps.off rfl rfl rfl rfl ?_
     refine DOps.off rfl rfl rfl rfl ?_
     refine DOps.off rfl rfl rfl rfl ?_
     refine DOps.off rfl rfl rfl rfl ?_
     refine DOps.off rfl rfl rfl rfl ?_
     refine DOps.off rfl rfl rfl rfl ?_
     refine DOps.off rfl rfl rfl rfl ?_
     refine DOps.off rfl rfl rfl rfl ?_
     refine DOps.off rfl rfl rfl rfl ?_
     refine DOps.off rfl rfl rfl rfl ?_
     refine DOps.off rfl rfl rfl rfl ?_
     refine DOps.off rfl rfl rfl rfl ?_
     refine D (tm' := [(34, _), (48, _)]) ⟨rfl, rfl, trivial⟩ (DStep.yields (Yields.pick_true rfl rfl)) rfl ?_
     refine DOps.nil ?_
     refine AWP.cond rfl (fun _ => ?_) (fun h => absurd h (by decide))
     refine AWP.exit ?_
     refine AWP.region ?_
     refine Y (mv rfl) rfl ?_
     refine Y (bn rfl rfl (BinR.subI (by omega) (by omega)) rfl) rfl ?_
     refine Y (ass rfl) rfl ?_
     refine AOps.nil ?_
     refine ⟨k - 1, ?_, ?_, ?_⟩
     ·
      show ((k - 1) + 1).toNat < (k + 1).toNat
      omega
     ·
      show -1 ≤ (k - 1) ∧ (k - 1) < bs.length
      exact ⟨by omega, by omega⟩
     · exact Leads.keepR (KeepR.cons 1 rfl (KeepR.cons 1 rfl (KeepR.cons 1 rfl KeepR.nil))) ⟨rfl, rfl, rfl, rfl, rfl, trivial⟩
    ·
     skip
     simp at c
   ·
    replace g := of_decide_eq_false g
    refine AWP.exit ?_
    refine AWP.seq ?_
    refine AWP.region ?_
    refine Y (Yields.build pl25 z25 rfl rfl) rfl ?_
    refine AOps.store (j := 2) kd25 rfl rfl rfl rfl rfl rfl ?_
    refine Y (ass rfl) rfl ?_
    refine AOps.nil ?_
    refine AWP.leads (Leads.rowWk 2 0 rfl rfl (wk_leaf _ _ _)) ?_
    refine AWP.ret ⟨.inl rfl, ?_⟩
    exact RetH.of (rs := [.cell 6 25, .tmp 7]) (vs := [_, _]) rfl ⟨resOne.cell (j := 2) rfl rfl kd25 rfl rfl rfl, rfl, trivial⟩ (KeepR.cons 0 rfl (KeepR.cons 0 rfl KeepR.nil)) (⟨rfl, rfl⟩)
end Go.Proofs.YteieleejhbljfaaGreat
