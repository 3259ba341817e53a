/- Expressions that are ones: ExprOk and ExprSize of both programs. -/
import Derived.Test.YtccdgppplkfjfaaDoorVok
namespace Go.Proofs.YtccdgppplkfjfaaDoor
open Go Go.Ax Go.Proofs
set_option linter.unusedVariables false
set_option linter.unusedSimpArgs false
set_option maxRecDepth 20000

theorem index_AF (l : List ByteArray) (s : ByteArray) (hl : l.length ≤ 140737488355328) : Fn 80 [.ro 1 (strs l) [] false, str s] (int (placeL l s 0)) := by
  have hlen := strs_length l
  refine AF.intro Tryd.func80 nm80 rfl rfl rfl rfl fun w0 ok0 => ?_
  refine AWP.seq ?_
  refine AWP.region ?_
  refine Y (ass rfl) rfl ?_
  refine AOps.nil ?_
  refine AWP.seq ?_
  refine AWP.seq ?_
  refine AWP.region ?_
  refine Y (mv rfl) rfl ?_
  refine Y (Yields.len_ro sl44 rfl) rfl ?_
  refine Y (mv rfl) rfl ?_
  refine AOps.nil ?_
  refine AWP.block ?_
  refine AWP.loopV (α := Nat) (fun i : Nat => ⟨[(0, .ro 1 (strs l) [] false), (1, str s), (7, int (strs l).length), (8, int i)], []⟩) (fun i : Nat => i ≤ l.length ∧ placeL (l.drop i) s i = placeL l s 0) (fun i : Nat => l.length - i) (0) ?_ ?_ ?_
  · exact Leads.rows 0 ⟨rfl, rfl, rfl, rfl, trivial⟩
  ·
   show 0 ≤ l.length ∧ placeL (l.drop 0) s 0 = placeL l s 0
   exact ⟨Nat.zero_le _, rfl⟩
  ·
   rintro i hinv
   refine AWP.seq ?_
   refine AWP.region ?_
   obtain ⟨hi, hp⟩ := hinv
   refine Y (bn rfl rfl BinR.lss rfl) rfl ?_
   refine AOps.nil ?_
   refine AWP.seq ?_
   refine AWP.condT rfl (fun g => ?_) (fun g => ?_)
   ·
    replace g := of_decide_eq_true g
    have hlt : i < l.length := by omega
    obtain ⟨t, ht, hd⟩ := drop_at hlt
    rw [hd, placeL] at hp
    refine AWP.skip ?_
    refine AWP.seq ?_
    refine AWP.block ?_
    refine AWP.seq ?_
    refine AWP.region ?_
    refine Y (mv rfl) rfl ?_
    refine Y (ass rfl) rfl ?_
    refine AOps.nil ?_
    refine AWP.seq ?_
    refine AWP.region ?_
    refine Y (mv rfl) rfl ?_
    refine Y (mv rfl) rfl ?_
    refine Y (mv rfl) rfl ?_
    refine Y (Yields.idx_roN sl44 rfl rfl rfl rfl (by omega)) rfl ?_
    refine Y (Yields.load_rop_one kd9 rfl (strs_at ht) rfl) rfl ?_
    refine Y (bn rfl rfl BinR.seql rfl) rfl ?_
    refine AOps.nil ?_
    refine AWP.condT rfl (fun g2 => ?_) (fun g2 => ?_)
    ·
     replace g2 := of_decide_eq_true g2
     refine AWP.seq ?_
     refine AWP.region ?_
     have g2 := g2.symm
     refine Y (mv rfl) rfl ?_
     refine Y (ass rfl) rfl ?_
     refine AOps.nil ?_
     refine AWP.ret ⟨.inl rfl, ?_⟩
     exact RetIs.oneV rfl rfl (by (rw [if_pos g2] at hp; rw [← hp]) <;> rfl)
    ·
     replace g2 := of_decide_eq_false g2
     refine AWP.skip ?_
     refine AWP.region ?_
     refine Y (bn rfl rfl (BinR.addI (by omega) (by omega)) rfl) rfl ?_
     refine Y (mv rfl) rfl ?_
     refine AOps.nil ?_
     refine ⟨i + 1, ?_, ?_, ?_⟩
     ·
      show l.length - (i + 1) < l.length - i
      omega
     ·
      show (i + 1) ≤ l.length ∧ placeL (l.drop (i + 1)) s (i + 1) = placeL l s 0
      exact ⟨hlt, by rw [← hp, if_neg (fun e => g2 e.symm)]⟩
     · exact Leads.rows 0 ⟨rfl, rfl, rfl, rfl, trivial⟩
   ·
    replace g := of_decide_eq_false g
    rw [List.drop_eq_nil_of_le (by omega), placeL] at hp
    refine AWP.exit ?_
    refine AWP.seq ?_
    refine AWP.region ?_
    refine Y (ass rfl) rfl ?_
    refine AOps.nil ?_
    refine AWP.ret ⟨.inl rfl, ?_⟩
    exact RetIs.oneV rfl rfl (by (rw [← hp]) <;> rfl)
theorem scontains_AF (l : List ByteArray) (s : ByteArray) (hl : l.length ≤ 140737488355328) : Fn 64 [.ro 1 (strs l) [] false, str s] (bool (memB l s)) := by
  refine AF.intro Tryd.func64 nm64 rfl rfl rfl rfl fun w0 ok0 => ?_
  refine AWP.seq ?_
  refine AWP.region ?_
  refine Y (ass rfl) rfl ?_
  refine AOps.nil ?_
  refine AWP.seq ?_
  refine AWP.region ?_
  refine Y (mv rfl) rfl ?_
  refine Y (mv rfl) rfl ?_
  refine AOps.callro (index_AF l s hl) rfl rfl rfl ?_
  refine Y (bn rfl rfl BinR.geq rfl) rfl ?_
  refine Y (ass rfl) rfl ?_
  refine AOps.nil ?_
  refine AWP.ret ⟨.inl rfl, ?_⟩
  exact RetIs.oneV rfl rfl (by (rw [placeL_ge l s 0 (by omega)]) <;> rfl)

def opB : List ByteArray := [⟨#[43]⟩, ⟨#[45]⟩, ⟨#[42]⟩, ⟨#[60]⟩, ⟨#[61, 61]⟩, ⟨#[38]⟩, ⟨#[124]⟩]
def shapeV (k nm : Int) (t : ByteArray) (n : Int) : Bool :=
  if k = 0 then inR nm 0 9999 && (decide (t = ⟨#[]⟩) && decide (n = 0))
  else if k = 1 then inR nm 0 1 && (decide (t = ⟨#[]⟩) && decide (n = 0))
  else decide (nm = 0) && (
    if k = 2 then isWordL t.data.toList && decide (n = 0)
    else if k = 3 then isNameL t.data.toList && decide (n = 0)
    else if k = 4 then isNameL t.data.toList && decide (n ≤ 4)
    else if k = 5 then isNameL t.data.toList && (decide (1 ≤ n) && decide (n ≤ 4))
    else if k = 6 then isNameL t.data.toList && decide (n = 1)
    else if k = 7 then typeOkL t.data.toList && (typeOkL (listT t).data.toList && decide (n ≤ 4))
    else if k = 8 ∨ k = 13 ∨ k = 15 then decide (t = ⟨#[]⟩) && decide (n = 1)
    else if k = 9 then memB opB t && decide (n = 2)
    else if k = 10 then decide (t = ⟨#[]⟩) && decide (n = 3)
    else if k = 11 ∨ k = 12 then isNameL t.data.toList && decide (n = 2)
    else if k = 14 then decide (t = ⟨#[]⟩) && decide (n = 2)
    else false)

theorem shape_AF (kd nm : Int) (t : ByteArray) (ks : List Tr) (ht : t.size ≤ 1000000) (hks : ks.length ≤ 1000000) : Fn 68 [Tr.av (.mk kd nm t ks)] (bool (shapeV kd nm t ks.length)) := by
  have hlen := Tr.avs_length ks
  have hls := listT_size t
  refine AF.intro Tryd.func68 nm68 rfl rfl rfl rfl fun w0 ok0 => ?_
  refine AWP.seq ?_
  refine AWP.region ?_
  refine AOps.box rfl rfl rfl rfl fun b1 => ?_
  refine Y (ass rfl) rfl ?_
  refine AOps.nil ?_
  refine AWP.seq ?_
  refine AWP.region ?_
  refine Y (Yields.fieldAddr_ptr fo29_3 rfl) rfl ?_
  refine Y (Yields.load_ptr_field (j := 0) kd27 rfl rfl rfl rfl rfl rfl rfl) rfl ?_
  refine Y (Yields.len_ro sl27 rfl) rfl ?_
  refine Y (ass rfl) rfl ?_
  refine AOps.nil ?_
  refine AWP.midP (kd = 0 ∨ kd = 1 ∨ nm = 0) [(1, .ptr (some b1) 0 0 4), (3, int (Tr.avs ks).length)] [(some b1, ⟨4, [Tr.av (.mk kd nm t ks)]⟩)] ?_ (fun hN => ?_)
  ·
   skip
   refine AWP.seq ?_
   refine AWP.region ?_
   refine Y (Yields.fieldAddr_ptr fo29_0 rfl) rfl ?_
   refine Y (Yields.load_ptr_field (j := 0) kd3 rfl rfl rfl rfl rfl rfl rfl) rfl ?_
   refine Y (bn rfl rfl BinR.neq rfl) rfl ?_
   refine Y (mv rfl) rfl ?_
   refine AOps.split 10 rfl (fun c0 => ?_) (fun c0 => ?_)
   ·
    replace c0 := bne_iff_ne.1 c0
    refine AOps.on rfl rfl ?_
    refine Y (Yields.fieldAddr_ptr fo29_0 rfl) rfl ?_
    refine AOps.on rfl rfl ?_
    refine Y (Yields.load_ptr_field (j := 0) kd3 rfl rfl rfl rfl rfl rfl rfl) rfl ?_
    refine AOps.on rfl rfl ?_
    refine Y (bn rfl rfl BinR.neq rfl) rfl ?_
    refine Y (Yields.pick_true rfl rfl) rfl ?_
    refine Y (mv rfl) rfl ?_
    refine AOps.split 15 rfl (fun c1 => ?_) (fun c1 => ?_)
    ·
     replace c1 := bne_iff_ne.1 c1
     refine AOps.on rfl rfl ?_
     refine Y (Yields.fieldAddr_ptr fo29_1 rfl) rfl ?_
     refine AOps.on rfl rfl ?_
     refine Y (Yields.load_ptr_field (j := 0) kd3 rfl rfl rfl rfl rfl rfl rfl) rfl ?_
     refine AOps.on rfl rfl ?_
     refine Y (bn rfl rfl BinR.neq rfl) rfl ?_
     refine Y (Yields.pick_true rfl rfl) rfl ?_
     refine AOps.nil ?_
     refine AWP.condT rfl (fun c2 => ?_) (fun c2 => ?_)
     ·
      replace c2 := bne_iff_ne.1 c2
      refine AWP.seq ?_
      refine AWP.region ?_
      refine Y (ass rfl) rfl ?_
      refine AOps.nil ?_
      refine AWP.ret ⟨.inl rfl, ?_⟩
      exact RetIs.oneV rfl rfl (congrArg (fun b => AV.val (Value.bool b)) (by rw [Bool.eq_iff_iff]; first | (simp [shapeV, c0, c1, c2]; done) | (simp [shapeV, c0, c1, c2]; omega) | (simp_all [shapeV, c0, c1, c2]; done) | (simp_all [shapeV, c0, c1, c2]; omega) | (simp_all [shapeV, c0, c1, c2]; intros; omega)))
     ·
      replace c2 := bne_eq_false_iff_eq.1 c2
      refine AWP.skip ?_
      exact ⟨.inr (.inr c2), Leads.rows 0 ⟨rfl, rfl, trivial⟩⟩
    ·
     replace c1 := bne_eq_false_iff_eq.1 c1
     refine AOps.off' rfl rfl rfl rfl ?_
     refine AOps.off' rfl rfl rfl rfl ?_
     refine AOps.off' rfl rfl rfl rfl ?_
     refine Y (Yields.pick_false rfl rfl) rfl ?_
     refine AOps.nil ?_
     refine AWP.cond rfl (fun h => absurd h (by decide)) (fun _ => ?_)
     refine AWP.skip ?_
     exact ⟨.inr (.inl c1), Leads.rows 0 ⟨rfl, rfl, trivial⟩⟩
   ·
    replace c0 := bne_eq_false_iff_eq.1 c0
    refine AOps.off' rfl rfl rfl rfl ?_
    refine AOps.off' rfl rfl rfl rfl ?_
    refine AOps.off' rfl rfl rfl rfl ?_
    refine Y (Yields.pick_false rfl rfl) rfl ?_
    refine Y (mv rfl) rfl ?_
    refine AOps.off' rfl rfl rfl rfl ?_
    refine AOps.off' rfl rfl rfl rfl ?_
    refine AOps.off' rfl rfl rfl rfl ?_
    refine Y (Yields.pick_false rfl rfl) rfl ?_
    refine AOps.nil ?_
    refine AWP.cond rfl (fun h => absurd h (by decide)) (fun _ => ?_)
    refine AWP.skip ?_
    exact ⟨.inl c0, Leads.rows 0 ⟨rfl, rfl, trivial⟩⟩
  ·
   skip
   refine AWP.seq ?_
   refine AWP.seq ?_
   refine AWP.region ?_
   refine Y (Yields.fieldAddr_ptr fo29_0 rfl) rfl ?_
   refine Y (Yields.load_ptr_field (j := 0) kd3 rfl rfl rfl rfl rfl rfl rfl) rfl ?_
   refine AOps.nil ?_
   refine AWP.block ?_
   refine AWP.seq ?_
   refine AWP.region ?_
   refine Y (bn rfl rfl BinR.eql rfl) rfl ?_
   refine Y (ass rfl) rfl ?_
   refine AOps.nil ?_
   refine AWP.condT rfl (fun h0 => ?_) (fun h0 => ?_)
   ·
    replace h0 := eq_of_beq h0
    refine AWP.seq ?_
    refine AWP.region ?_
    refine Y (Yields.fieldAddr_ptr fo29_1 rfl) rfl ?_
    refine Y (Yields.load_ptr_field (j := 0) kd3 rfl rfl rfl rfl rfl rfl rfl) rfl ?_
    refine Y (bn rfl rfl BinR.geq rfl) rfl ?_
    refine Y (mv rfl) rfl ?_
    refine AOps.split 27 rfl (fun a1 => ?_) (fun a1 => ?_)
    ·
     replace a1 := of_decide_eq_true a1
     refine AOps.on rfl rfl ?_
     refine Y (Yields.fieldAddr_ptr fo29_1 rfl) rfl ?_
     refine AOps.on rfl rfl ?_
     refine Y (Yields.load_ptr_field (j := 0) kd3 rfl rfl rfl rfl rfl rfl rfl) rfl ?_
     refine AOps.on rfl rfl ?_
     refine Y (bn rfl rfl BinR.leq rfl) rfl ?_
     refine Y (Yields.pick_true rfl rfl) rfl ?_
     refine Y (mv rfl) rfl ?_
     refine AOps.split 32 rfl (fun a2 => ?_) (fun a2 => ?_)
     ·
      replace a2 := of_decide_eq_true a2
      refine AOps.on rfl rfl ?_
      refine Y (Yields.fieldAddr_ptr fo29_2 rfl) rfl ?_
      refine AOps.on rfl rfl ?_
      refine Y (Yields.load_ptr_field (j := 0) kd9 rfl rfl rfl rfl rfl rfl rfl) rfl ?_
      refine AOps.on rfl rfl ?_
      refine Y (bn rfl rfl BinR.seql rfl) rfl ?_
      refine Y (Yields.pick_true rfl rfl) rfl ?_
      refine Y (mv rfl) rfl ?_
      refine AOps.split 37 rfl (fun a3 => ?_) (fun a3 => ?_)
      ·
       replace a3 := of_decide_eq_true a3
       refine AOps.on rfl rfl ?_
       refine Y (mv rfl) rfl ?_
       refine AOps.on rfl rfl ?_
       refine Y (bn rfl rfl BinR.eql rfl) rfl ?_
       refine Y (Yields.pick_true rfl rfl) rfl ?_
       refine Y (ass rfl) rfl ?_
       refine AOps.nil ?_
       refine AWP.ret ⟨.inl rfl, ?_⟩
       exact RetIs.oneV rfl rfl (congrArg (fun b => AV.val (Value.bool b)) (by rw [Bool.eq_iff_iff]; first | (simp [shapeV, h0, inR, a1, a2, a3, hlen]; done) | (simp [shapeV, h0, inR, a1, a2, a3, hlen]; omega) | (simp_all [shapeV, h0, inR, a1, a2, a3, hlen]; done) | (simp_all [shapeV, h0, inR, a1, a2, a3, hlen]; omega) | (simp_all [shapeV, h0, inR, a1, a2, a3, hlen]; intros; omega)))
      ·
       replace a3 := of_decide_eq_false a3
       refine AOps.off' rfl rfl rfl rfl ?_
       refine AOps.off' rfl rfl rfl rfl ?_
       refine Y (Yields.pick_false rfl rfl) rfl ?_
       refine Y (ass rfl) rfl ?_
       refine AOps.nil ?_
       refine AWP.ret ⟨.inl rfl, ?_⟩
       exact RetIs.oneV rfl rfl (congrArg (fun b => AV.val (Value.bool b)) (by rw [Bool.eq_iff_iff]; first | (simp [shapeV, h0, inR, a1, a2, a3, hlen]; done) | (simp [shapeV, h0, inR, a1, a2, a3, hlen]; omega) | (simp_all [shapeV, h0, inR, a1, a2, a3, hlen]; done) | (simp_all [shapeV, h0, inR, a1, a2, a3, hlen]; omega) | (simp_all [shapeV, h0, inR, a1, a2, a3, hlen]; intros; omega)))
     ·
      replace a2 := of_decide_eq_false a2
      refine AOps.off' rfl rfl rfl rfl ?_
      refine AOps.off' rfl rfl rfl rfl ?_
      refine AOps.off' rfl rfl rfl rfl ?_
      refine Y (Yields.pick_false rfl rfl) rfl ?_
      refine Y (mv rfl) rfl ?_
      refine AOps.off' rfl rfl rfl rfl ?_
      refine AOps.off' rfl rfl rfl rfl ?_
      refine Y (Yields.pick_false rfl rfl) rfl ?_
      refine Y (ass rfl) rfl ?_
      refine AOps.nil ?_
      refine AWP.ret ⟨.inl rfl, ?_⟩
      exact RetIs.oneV rfl rfl (congrArg (fun b => AV.val (Value.bool b)) (by rw [Bool.eq_iff_iff]; first | (simp [shapeV, h0, inR, a1, a2, hlen]; done) | (simp [shapeV, h0, inR, a1, a2, hlen]; omega) | (simp_all [shapeV, h0, inR, a1, a2, hlen]; done) | (simp_all [shapeV, h0, inR, a1, a2, hlen]; omega) | (simp_all [shapeV, h0, inR, a1, a2, hlen]; intros; omega)))
    ·
     replace a1 := of_decide_eq_false a1
     refine AOps.off' rfl rfl rfl rfl ?_
     refine AOps.off' rfl rfl rfl rfl ?_
     refine AOps.off' rfl rfl rfl rfl ?_
     refine Y (Yields.pick_false rfl rfl) rfl ?_
     refine Y (mv rfl) rfl ?_
     refine AOps.off' rfl rfl rfl rfl ?_
     refine AOps.off' rfl rfl rfl rfl ?_
     refine AOps.off' rfl rfl rfl rfl ?_
     refine Y (Yields.pick_false rfl rfl) rfl ?_
     refine Y (mv rfl) rfl ?_
     refine AOps.off' rfl rfl rfl rfl ?_
     refine AOps.off' rfl rfl rfl rfl ?_
     refine Y (Yields.pick_false rfl rfl) rfl ?_
     refine Y (ass rfl) rfl ?_
     refine AOps.nil ?_
     refine AWP.ret ⟨.inl rfl, ?_⟩
     exact RetIs.oneV rfl rfl (congrArg (fun b => AV.val (Value.bool b)) (by rw [Bool.eq_iff_iff]; first | (simp [shapeV, h0, inR, a1, hlen]; done) | (simp [shapeV, h0, inR, a1, hlen]; omega) | (simp_all [shapeV, h0, inR, a1, hlen]; done) | (simp_all [shapeV, h0, inR, a1, hlen]; omega) | (simp_all [shapeV, h0, inR, a1, hlen]; intros; omega)))
   ·
    replace h0 := ne_of_beq_false h0
    refine AWP.seq ?_
    refine AWP.region ?_
    refine Y (bn rfl rfl BinR.eql rfl) rfl ?_
    refine Y (ass rfl) rfl ?_
    refine AOps.nil ?_
    refine AWP.condT rfl (fun h1 => ?_) (fun h1 => ?_)
    ·
     replace h1 := eq_of_beq h1
     refine AWP.seq ?_
     refine AWP.region ?_
     refine Y (Yields.fieldAddr_ptr fo29_1 rfl) rfl ?_
     refine Y (Yields.load_ptr_field (j := 0) kd3 rfl rfl rfl rfl rfl rfl rfl) rfl ?_
     refine Y (bn rfl rfl BinR.eql rfl) rfl ?_
     refine Y (mv rfl) rfl ?_
     refine AOps.split 46 rfl (fun a1 => ?_) (fun a1 => ?_)
     ·
      replace a1 := eq_of_beq a1
      refine AOps.off' rfl rfl rfl rfl ?_
      refine AOps.off' rfl rfl rfl rfl ?_
      refine AOps.off' rfl rfl rfl rfl ?_
      refine Y (Yields.pick_true rfl rfl) rfl ?_
      refine Y (mv rfl) rfl ?_
      refine AOps.on rfl rfl ?_
      refine Y (Yields.fieldAddr_ptr fo29_2 rfl) rfl ?_
      refine AOps.on rfl rfl ?_
      refine Y (Yields.load_ptr_field (j := 0) kd9 rfl rfl rfl rfl rfl rfl rfl) rfl ?_
      refine AOps.on rfl rfl ?_
      refine Y (bn rfl rfl BinR.seql rfl) rfl ?_
      refine Y (Yields.pick_true rfl rfl) rfl ?_
      refine Y (mv rfl) rfl ?_
      refine AOps.split 56 rfl (fun a3 => ?_) (fun a3 => ?_)
      ·
       replace a3 := of_decide_eq_true a3
       refine AOps.on rfl rfl ?_
       refine Y (mv rfl) rfl ?_
       refine AOps.on rfl rfl ?_
       refine Y (bn rfl rfl BinR.eql rfl) rfl ?_
       refine Y (Yields.pick_true rfl rfl) rfl ?_
       refine Y (ass rfl) rfl ?_
       refine AOps.nil ?_
       refine AWP.ret ⟨.inl rfl, ?_⟩
       exact RetIs.oneV rfl rfl (congrArg (fun b => AV.val (Value.bool b)) (by rw [Bool.eq_iff_iff]; first | (simp [shapeV, h1, inR, a1, a3, hlen]; done) | (simp [shapeV, h1, inR, a1, a3, hlen]; omega) | (simp_all [shapeV, h1, inR, a1, a3, hlen]; done) | (simp_all [shapeV, h1, inR, a1, a3, hlen]; omega) | (simp_all [shapeV, h1, inR, a1, a3, hlen]; intros; omega)))
      ·
       replace a3 := of_decide_eq_false a3
       refine AOps.off' rfl rfl rfl rfl ?_
       refine AOps.off' rfl rfl rfl rfl ?_
       refine Y (Yields.pick_false rfl rfl) rfl ?_
       refine Y (ass rfl) rfl ?_
       refine AOps.nil ?_
       refine AWP.ret ⟨.inl rfl, ?_⟩
       exact RetIs.oneV rfl rfl (congrArg (fun b => AV.val (Value.bool b)) (by rw [Bool.eq_iff_iff]; first | (simp [shapeV, h1, inR, a1, a3, hlen]; done) | (simp [shapeV, h1, inR, a1, a3, hlen]; omega) | (simp_all [shapeV, h1, inR, a1, a3, hlen]; done) | (simp_all [shapeV, h1, inR, a1, a3, hlen]; omega) | (simp_all [shapeV, h1, inR, a1, a3, hlen]; intros; omega)))
     ·
      replace a1 := ne_of_beq_false a1
      refine AOps.on rfl rfl ?_
      refine Y (Yields.fieldAddr_ptr fo29_1 rfl) rfl ?_
      refine AOps.on rfl rfl ?_
      refine Y (Yields.load_ptr_field (j := 0) kd3 rfl rfl rfl rfl rfl rfl rfl) rfl ?_
      refine AOps.on rfl rfl ?_
      refine Y (bn rfl rfl BinR.eql rfl) rfl ?_
      refine Y (Yields.pick_false rfl rfl) rfl ?_
      refine Y (mv rfl) rfl ?_
      refine AOps.split 51 rfl (fun a2 => ?_) (fun a2 => ?_)
      ·
       replace a2 := eq_of_beq a2
       refine AOps.on rfl rfl ?_
       refine Y (Yields.fieldAddr_ptr fo29_2 rfl) rfl ?_
       refine AOps.on rfl rfl ?_
       refine Y (Yields.load_ptr_field (j := 0) kd9 rfl rfl rfl rfl rfl rfl rfl) rfl ?_
       refine AOps.on rfl rfl ?_
       refine Y (bn rfl rfl BinR.seql rfl) rfl ?_
       refine Y (Yields.pick_true rfl rfl) rfl ?_
       refine Y (mv rfl) rfl ?_
       refine AOps.split 56 rfl (fun a3 => ?_) (fun a3 => ?_)
       ·
        replace a3 := of_decide_eq_true a3
        refine AOps.on rfl rfl ?_
        refine Y (mv rfl) rfl ?_
        refine AOps.on rfl rfl ?_
        refine Y (bn rfl rfl BinR.eql rfl) rfl ?_
        refine Y (Yields.pick_true rfl rfl) rfl ?_
        refine Y (ass rfl) rfl ?_
        refine AOps.nil ?_
        refine AWP.ret ⟨.inl rfl, ?_⟩
        exact RetIs.oneV rfl rfl (congrArg (fun b => AV.val (Value.bool b)) (by rw [Bool.eq_iff_iff]; first | (simp [shapeV, h1, inR, a2, a3, hlen]; done) | (simp [shapeV, h1, inR, a2, a3, hlen]; omega) | (simp_all [shapeV, h1, inR, a2, a3, hlen]; done) | (simp_all [shapeV, h1, inR, a2, a3, hlen]; omega) | (simp_all [shapeV, h1, inR, a2, a3, hlen]; intros; omega)))
       ·
        replace a3 := of_decide_eq_false a3
        refine AOps.off' rfl rfl rfl rfl ?_
        refine AOps.off' rfl rfl rfl rfl ?_
        refine Y (Yields.pick_false rfl rfl) rfl ?_
        refine Y (ass rfl) rfl ?_
        refine AOps.nil ?_
        refine AWP.ret ⟨.inl rfl, ?_⟩
        exact RetIs.oneV rfl rfl (congrArg (fun b => AV.val (Value.bool b)) (by rw [Bool.eq_iff_iff]; first | (simp [shapeV, h1, inR, a2, a3, hlen]; done) | (simp [shapeV, h1, inR, a2, a3, hlen]; omega) | (simp_all [shapeV, h1, inR, a2, a3, hlen]; done) | (simp_all [shapeV, h1, inR, a2, a3, hlen]; omega) | (simp_all [shapeV, h1, inR, a2, a3, hlen]; intros; omega)))
      ·
       replace a2 := ne_of_beq_false a2
       refine AOps.off' rfl rfl rfl rfl ?_
       refine AOps.off' rfl rfl rfl rfl ?_
       refine AOps.off' rfl rfl rfl rfl ?_
       refine Y (Yields.pick_false rfl rfl) rfl ?_
       refine Y (mv rfl) rfl ?_
       refine AOps.off' rfl rfl rfl rfl ?_
       refine AOps.off' rfl rfl rfl rfl ?_
       refine Y (Yields.pick_false rfl rfl) rfl ?_
       refine Y (ass rfl) rfl ?_
       refine AOps.nil ?_
       refine AWP.ret ⟨.inl rfl, ?_⟩
       exact RetIs.oneV rfl rfl (congrArg (fun b => AV.val (Value.bool b)) (by rw [Bool.eq_iff_iff]; first | (simp [shapeV, h1, inR, a1, a2, hlen]; done) | (simp [shapeV, h1, inR, a1, a2, hlen]; omega) | (simp_all [shapeV, h1, inR, a1, a2, hlen]; done) | (simp_all [shapeV, h1, inR, a1, a2, hlen]; omega) | (simp_all [shapeV, h1, inR, a1, a2, hlen]; intros; omega)))
    ·
     replace h1 := ne_of_beq_false h1
     refine AWP.seq ?_
     refine AWP.region ?_
     have hN : nm = 0 := by omega
     refine Y (bn rfl rfl BinR.eql rfl) rfl ?_
     refine Y (ass rfl) rfl ?_
     refine AOps.nil ?_
     refine AWP.condT rfl (fun h2 => ?_) (fun h2 => ?_)
     ·
      replace h2 := eq_of_beq h2
      refine AWP.seq ?_
      refine AWP.region ?_
      refine Y (Yields.fieldAddr_ptr fo29_2 rfl) rfl ?_
      refine Y (Yields.load_ptr_field (j := 0) kd9 rfl rfl rfl rfl rfl rfl rfl) rfl ?_
      refine AOps.callro (wordOk_AF t (by omega)) rfl rfl rfl ?_
      refine Y (mv rfl) rfl ?_
      refine AOps.split 65 rfl (fun a1 => ?_) (fun a1 => ?_)
      ·
       skip
       refine AOps.on rfl rfl ?_
       refine Y (mv rfl) rfl ?_
       refine AOps.on rfl rfl ?_
       refine Y (bn rfl rfl BinR.eql rfl) rfl ?_
       refine Y (Yields.pick_true rfl rfl) rfl ?_
       refine Y (ass rfl) rfl ?_
       refine AOps.nil ?_
       refine AWP.ret ⟨.inl rfl, ?_⟩
       exact RetIs.oneV rfl rfl (congrArg (fun b => AV.val (Value.bool b)) (by rw [Bool.eq_iff_iff]; first | (simp [shapeV, hN, h2, a1, hlen]; done) | (simp [shapeV, hN, h2, a1, hlen]; omega) | (simp_all [shapeV, hN, h2, a1, hlen]; done) | (simp_all [shapeV, hN, h2, a1, hlen]; omega) | (simp_all [shapeV, hN, h2, a1, hlen]; intros; omega)))
      ·
       skip
       refine AOps.off' rfl rfl rfl rfl ?_
       refine AOps.off' rfl rfl rfl rfl ?_
       refine Y (Yields.pick_false rfl rfl) rfl ?_
       refine Y (ass rfl) rfl ?_
       refine AOps.nil ?_
       refine AWP.ret ⟨.inl rfl, ?_⟩
       exact RetIs.oneV rfl rfl (congrArg (fun b => AV.val (Value.bool b)) (by rw [Bool.eq_iff_iff]; first | (simp [shapeV, hN, h2, a1, hlen]; done) | (simp [shapeV, hN, h2, a1, hlen]; omega) | (simp_all [shapeV, hN, h2, a1, hlen]; done) | (simp_all [shapeV, hN, h2, a1, hlen]; omega) | (simp_all [shapeV, hN, h2, a1, hlen]; intros; omega)))
     ·
      replace h2 := ne_of_beq_false h2
      refine AWP.seq ?_
      refine AWP.region ?_
      refine Y (bn rfl rfl BinR.eql rfl) rfl ?_
      refine Y (ass rfl) rfl ?_
      refine AOps.nil ?_
      refine AWP.condT rfl (fun h3 => ?_) (fun h3 => ?_)
      ·
       replace h3 := eq_of_beq h3
       refine AWP.seq ?_
       refine AWP.region ?_
       refine Y (Yields.fieldAddr_ptr fo29_2 rfl) rfl ?_
       refine Y (Yields.load_ptr_field (j := 0) kd9 rfl rfl rfl rfl rfl rfl rfl) rfl ?_
       refine AOps.callro (nameOk_AF t (by omega)) rfl rfl rfl ?_
       refine Y (mv rfl) rfl ?_
       refine AOps.split 74 rfl (fun a1 => ?_) (fun a1 => ?_)
       ·
        skip
        refine AOps.on rfl rfl ?_
        refine Y (mv rfl) rfl ?_
        refine AOps.on rfl rfl ?_
        refine Y (bn rfl rfl BinR.eql rfl) rfl ?_
        refine Y (Yields.pick_true rfl rfl) rfl ?_
        refine Y (ass rfl) rfl ?_
        refine AOps.nil ?_
        refine AWP.ret ⟨.inl rfl, ?_⟩
        exact RetIs.oneV rfl rfl (congrArg (fun b => AV.val (Value.bool b)) (by rw [Bool.eq_iff_iff]; first | (simp [shapeV, hN, h3, a1, hlen]; done) | (simp [shapeV, hN, h3, a1, hlen]; omega) | (simp_all [shapeV, hN, h3, a1, hlen]; done) | (simp_all [shapeV, hN, h3, a1, hlen]; omega) | (simp_all [shapeV, hN, h3, a1, hlen]; intros; omega)))
       ·
        skip
        refine AOps.off' rfl rfl rfl rfl ?_
        refine AOps.off' rfl rfl rfl rfl ?_
        refine Y (Yields.pick_false rfl rfl) rfl ?_
        refine Y (ass rfl) rfl ?_
        refine AOps.nil ?_
        refine AWP.ret ⟨.inl rfl, ?_⟩
        exact RetIs.oneV rfl rfl (congrArg (fun b => AV.val (Value.bool b)) (by rw [Bool.eq_iff_iff]; first | (simp [shapeV, hN, h3, a1, hlen]; done) | (simp [shapeV, hN, h3, a1, hlen]; omega) | (simp_all [shapeV, hN, h3, a1, hlen]; done) | (simp_all [shapeV, hN, h3, a1, hlen]; omega) | (simp_all [shapeV, hN, h3, a1, hlen]; intros; omega)))
      ·
       replace h3 := ne_of_beq_false h3
       refine AWP.seq ?_
       refine AWP.region ?_
       refine Y (bn rfl rfl BinR.eql rfl) rfl ?_
       refine Y (ass rfl) rfl ?_
       refine AOps.nil ?_
       refine AWP.condT rfl (fun h4 => ?_) (fun h4 => ?_)
       ·
        replace h4 := eq_of_beq h4
        refine AWP.seq ?_
        refine AWP.region ?_
        refine Y (Yields.fieldAddr_ptr fo29_2 rfl) rfl ?_
        refine Y (Yields.load_ptr_field (j := 0) kd9 rfl rfl rfl rfl rfl rfl rfl) rfl ?_
        refine AOps.callro (nameOk_AF t (by omega)) rfl rfl rfl ?_
        refine Y (mv rfl) rfl ?_
        refine AOps.split 83 rfl (fun a1 => ?_) (fun a1 => ?_)
        ·
         skip
         refine AOps.on rfl rfl ?_
         refine Y (mv rfl) rfl ?_
         refine AOps.on rfl rfl ?_
         refine Y (bn rfl rfl BinR.leq rfl) rfl ?_
         refine Y (Yields.pick_true rfl rfl) rfl ?_
         refine Y (ass rfl) rfl ?_
         refine AOps.nil ?_
         refine AWP.ret ⟨.inl rfl, ?_⟩
         exact RetIs.oneV rfl rfl (congrArg (fun b => AV.val (Value.bool b)) (by rw [Bool.eq_iff_iff]; first | (simp [shapeV, hN, h4, a1, hlen]; done) | (simp [shapeV, hN, h4, a1, hlen]; omega) | (simp_all [shapeV, hN, h4, a1, hlen]; done) | (simp_all [shapeV, hN, h4, a1, hlen]; omega) | (simp_all [shapeV, hN, h4, a1, hlen]; intros; omega)))
        ·
         skip
         refine AOps.off' rfl rfl rfl rfl ?_
         refine AOps.off' rfl rfl rfl rfl ?_
         refine Y (Yields.pick_false rfl rfl) rfl ?_
         refine Y (ass rfl) rfl ?_
         refine AOps.nil ?_
         refine AWP.ret ⟨.inl rfl, ?_⟩
         exact RetIs.oneV rfl rfl (congrArg (fun b => AV.val (Value.bool b)) (by rw [Bool.eq_iff_iff]; first | (simp [shapeV, hN, h4, a1, hlen]; done) | (simp [shapeV, hN, h4, a1, hlen]; omega) | (simp_all [shapeV, hN, h4, a1, hlen]; done) | (simp_all [shapeV, hN, h4, a1, hlen]; omega) | (simp_all [shapeV, hN, h4, a1, hlen]; intros; omega)))
       ·
        replace h4 := ne_of_beq_false h4
        refine AWP.seq ?_
        refine AWP.region ?_
        refine Y (bn rfl rfl BinR.eql rfl) rfl ?_
        refine Y (ass rfl) rfl ?_
        refine AOps.nil ?_
        refine AWP.condT rfl (fun h5 => ?_) (fun h5 => ?_)
        ·
         replace h5 := eq_of_beq h5
         refine AWP.seq ?_
         refine AWP.region ?_
         refine Y (Yields.fieldAddr_ptr fo29_2 rfl) rfl ?_
         refine Y (Yields.load_ptr_field (j := 0) kd9 rfl rfl rfl rfl rfl rfl rfl) rfl ?_
         refine AOps.callro (nameOk_AF t (by omega)) rfl rfl rfl ?_
         refine Y (mv rfl) rfl ?_
         refine AOps.split 92 rfl (fun a1 => ?_) (fun a1 => ?_)
         ·
          skip
          refine AOps.on rfl rfl ?_
          refine Y (mv rfl) rfl ?_
          refine AOps.on rfl rfl ?_
          refine Y (bn rfl rfl BinR.geq rfl) rfl ?_
          refine Y (Yields.pick_true rfl rfl) rfl ?_
          refine Y (mv rfl) rfl ?_
          refine AOps.split 96 rfl (fun a2 => ?_) (fun a2 => ?_)
          ·
           replace a2 := of_decide_eq_true a2
           refine AOps.on rfl rfl ?_
           refine Y (mv rfl) rfl ?_
           refine AOps.on rfl rfl ?_
           refine Y (bn rfl rfl BinR.leq rfl) rfl ?_
           refine Y (Yields.pick_true rfl rfl) rfl ?_
           refine Y (ass rfl) rfl ?_
           refine AOps.nil ?_
           refine AWP.ret ⟨.inl rfl, ?_⟩
           exact RetIs.oneV rfl rfl (congrArg (fun b => AV.val (Value.bool b)) (by rw [Bool.eq_iff_iff]; first | (simp [shapeV, hN, h5, a1, a2, hlen]; done) | (simp [shapeV, hN, h5, a1, a2, hlen]; omega) | (simp_all [shapeV, hN, h5, a1, a2, hlen]; done) | (simp_all [shapeV, hN, h5, a1, a2, hlen]; omega) | (simp_all [shapeV, hN, h5, a1, a2, hlen]; intros; omega)))
          ·
           replace a2 := of_decide_eq_false a2
           refine AOps.off' rfl rfl rfl rfl ?_
           refine AOps.off' rfl rfl rfl rfl ?_
           refine Y (Yields.pick_false rfl rfl) rfl ?_
           refine Y (ass rfl) rfl ?_
           refine AOps.nil ?_
           refine AWP.ret ⟨.inl rfl, ?_⟩
           exact RetIs.oneV rfl rfl (congrArg (fun b => AV.val (Value.bool b)) (by rw [Bool.eq_iff_iff]; first | (simp [shapeV, hN, h5, a1, a2, hlen]; done) | (simp [shapeV, hN, h5, a1, a2, hlen]; omega) | (simp_all [shapeV, hN, h5, a1, a2, hlen]; done) | (simp_all [shapeV, hN, h5, a1, a2, hlen]; omega) | (simp_all [shapeV, hN, h5, a1, a2, hlen]; intros; omega)))
         ·
          skip
          refine AOps.off' rfl rfl rfl rfl ?_
          refine AOps.off' rfl rfl rfl rfl ?_
          refine Y (Yields.pick_false rfl rfl) rfl ?_
          refine Y (mv rfl) rfl ?_
          refine AOps.off' rfl rfl rfl rfl ?_
          refine AOps.off' rfl rfl rfl rfl ?_
          refine Y (Yields.pick_false rfl rfl) rfl ?_
          refine Y (ass rfl) rfl ?_
          refine AOps.nil ?_
          refine AWP.ret ⟨.inl rfl, ?_⟩
          exact RetIs.oneV rfl rfl (congrArg (fun b => AV.val (Value.bool b)) (by rw [Bool.eq_iff_iff]; first | (simp [shapeV, hN, h5, a1, hlen]; done) | (simp [shapeV, hN, h5, a1, hlen]; omega) | (simp_all [shapeV, hN, h5, a1, hlen]; done) | (simp_all [shapeV, hN, h5, a1, hlen]; omega) | (simp_all [shapeV, hN, h5, a1, hlen]; intros; omega)))
        ·
         replace h5 := ne_of_beq_false h5
         refine AWP.seq ?_
         refine AWP.region ?_
         refine Y (bn rfl rfl BinR.eql rfl) rfl ?_
         refine Y (ass rfl) rfl ?_
         refine AOps.nil ?_
         refine AWP.condT rfl (fun h6 => ?_) (fun h6 => ?_)
         ·
          replace h6 := eq_of_beq h6
          refine AWP.seq ?_
          refine AWP.region ?_
          refine Y (Yields.fieldAddr_ptr fo29_2 rfl) rfl ?_
          refine Y (Yields.load_ptr_field (j := 0) kd9 rfl rfl rfl rfl rfl rfl rfl) rfl ?_
          refine AOps.callro (nameOk_AF t (by omega)) rfl rfl rfl ?_
          refine Y (mv rfl) rfl ?_
          refine AOps.split 105 rfl (fun a1 => ?_) (fun a1 => ?_)
          ·
           skip
           refine AOps.on rfl rfl ?_
           refine Y (mv rfl) rfl ?_
           refine AOps.on rfl rfl ?_
           refine Y (bn rfl rfl BinR.eql rfl) rfl ?_
           refine Y (Yields.pick_true rfl rfl) rfl ?_
           refine Y (ass rfl) rfl ?_
           refine AOps.nil ?_
           refine AWP.ret ⟨.inl rfl, ?_⟩
           exact RetIs.oneV rfl rfl (congrArg (fun b => AV.val (Value.bool b)) (by rw [Bool.eq_iff_iff]; first | (simp [shapeV, hN, h6, a1, hlen]; done) | (simp [shapeV, hN, h6, a1, hlen]; omega) | (simp_all [shapeV, hN, h6, a1, hlen]; done) | (simp_all [shapeV, hN, h6, a1, hlen]; omega) | (simp_all [shapeV, hN, h6, a1, hlen]; intros; omega)))
          ·
           skip
           refine AOps.off' rfl rfl rfl rfl ?_
           refine AOps.off' rfl rfl rfl rfl ?_
           refine Y (Yields.pick_false rfl rfl) rfl ?_
           refine Y (ass rfl) rfl ?_
           refine AOps.nil ?_
           refine AWP.ret ⟨.inl rfl, ?_⟩
           exact RetIs.oneV rfl rfl (congrArg (fun b => AV.val (Value.bool b)) (by rw [Bool.eq_iff_iff]; first | (simp [shapeV, hN, h6, a1, hlen]; done) | (simp [shapeV, hN, h6, a1, hlen]; omega) | (simp_all [shapeV, hN, h6, a1, hlen]; done) | (simp_all [shapeV, hN, h6, a1, hlen]; omega) | (simp_all [shapeV, hN, h6, a1, hlen]; intros; omega)))
         ·
          replace h6 := ne_of_beq_false h6
          refine AWP.seq ?_
          refine AWP.region ?_
          refine Y (bn rfl rfl BinR.eql rfl) rfl ?_
          refine Y (ass rfl) rfl ?_
          refine AOps.nil ?_
          refine AWP.condT rfl (fun h7 => ?_) (fun h7 => ?_)
          ·
           replace h7 := eq_of_beq h7
           refine AWP.seq ?_
           refine AWP.region ?_
           refine Y (Yields.fieldAddr_ptr fo29_2 rfl) rfl ?_
           refine Y (Yields.load_ptr_field (j := 0) kd9 rfl rfl rfl rfl rfl rfl rfl) rfl ?_
           refine AOps.callro (iTypeOk_AF t (by omega)) rfl rfl rfl ?_
           refine Y (mv rfl) rfl ?_
           refine AOps.split 114 rfl (fun a1 => ?_) (fun a1 => ?_)
           ·
            skip
            refine AOps.on rfl rfl ?_
            refine Y (Yields.fieldAddr_ptr fo29_2 rfl) rfl ?_
            refine AOps.on rfl rfl ?_
            refine Y (Yields.load_ptr_field (j := 0) kd9 rfl rfl rfl rfl rfl rfl rfl) rfl ?_
            refine AOps.on rfl rfl ?_
            refine Y (bn rfl rfl (BinR.sadd (by exact add1 (by omega))) rfl) rfl ?_
            refine AOps.on rfl rfl ?_
            refine Y (bn rfl rfl (BinR.sadd (by exact add2 (by omega))) rfl) rfl ?_
            refine AOps.on rfl rfl ?_
            refine AOps.callro (iTypeOk_AF (listT t) (by omega)) rfl rfl rfl ?_
            refine Y (Yields.pick_true rfl rfl) rfl ?_
            refine Y (mv rfl) rfl ?_
            refine AOps.split 121 rfl (fun a2 => ?_) (fun a2 => ?_)
            ·
             skip
             refine AOps.on rfl rfl ?_
             refine Y (mv rfl) rfl ?_
             refine AOps.on rfl rfl ?_
             refine Y (bn rfl rfl BinR.leq rfl) rfl ?_
             refine Y (Yields.pick_true rfl rfl) rfl ?_
             refine Y (ass rfl) rfl ?_
             refine AOps.nil ?_
             refine AWP.ret ⟨.inl rfl, ?_⟩
             exact RetIs.oneV rfl rfl (congrArg (fun b => AV.val (Value.bool b)) (by rw [Bool.eq_iff_iff]; first | (simp [shapeV, hN, h7, a1, a2, hlen]; done) | (simp [shapeV, hN, h7, a1, a2, hlen]; omega) | (simp_all [shapeV, hN, h7, a1, a2, hlen]; done) | (simp_all [shapeV, hN, h7, a1, a2, hlen]; omega) | (simp_all [shapeV, hN, h7, a1, a2, hlen]; intros; omega)))
            ·
             skip
             refine AOps.off' rfl rfl rfl rfl ?_
             refine AOps.off' rfl rfl rfl rfl ?_
             refine Y (Yields.pick_false rfl rfl) rfl ?_
             refine Y (ass rfl) rfl ?_
             refine AOps.nil ?_
             refine AWP.ret ⟨.inl rfl, ?_⟩
             exact RetIs.oneV rfl rfl (congrArg (fun b => AV.val (Value.bool b)) (by rw [Bool.eq_iff_iff]; first | (simp [shapeV, hN, h7, a1, a2, hlen]; done) | (simp [shapeV, hN, h7, a1, a2, hlen]; omega) | (simp_all [shapeV, hN, h7, a1, a2, hlen]; done) | (simp_all [shapeV, hN, h7, a1, a2, hlen]; omega) | (simp_all [shapeV, hN, h7, a1, a2, hlen]; intros; omega)))
           ·
            skip
            refine AOps.off' rfl rfl rfl rfl ?_
            refine AOps.off' rfl rfl rfl rfl ?_
            refine AOps.off' rfl rfl rfl rfl ?_
            refine AOps.off' rfl rfl rfl rfl ?_
            refine AOps.off' rfl rfl rfl rfl ?_
            refine Y (Yields.pick_false rfl rfl) rfl ?_
            refine Y (mv rfl) rfl ?_
            refine AOps.off' rfl rfl rfl rfl ?_
            refine AOps.off' rfl rfl rfl rfl ?_
            refine Y (Yields.pick_false rfl rfl) rfl ?_
            refine Y (ass rfl) rfl ?_
            refine AOps.nil ?_
            refine AWP.ret ⟨.inl rfl, ?_⟩
            exact RetIs.oneV rfl rfl (congrArg (fun b => AV.val (Value.bool b)) (by rw [Bool.eq_iff_iff]; first | (simp [shapeV, hN, h7, a1, hlen]; done) | (simp [shapeV, hN, h7, a1, hlen]; omega) | (simp_all [shapeV, hN, h7, a1, hlen]; done) | (simp_all [shapeV, hN, h7, a1, hlen]; omega) | (simp_all [shapeV, hN, h7, a1, hlen]; intros; omega)))
          ·
           replace h7 := ne_of_beq_false h7
           refine AWP.seq ?_
           refine AWP.seq ?_
           refine AWP.region ?_
           refine Y (bn rfl rfl BinR.eql rfl) rfl ?_
           refine Y (ass rfl) rfl ?_
           refine AOps.nil ?_
           refine AWP.condT rfl (fun h8 => ?_) (fun h8 => ?_)
           ·
            replace h8 := eq_of_beq h8
            refine AWP.skip ?_
            refine AWP.cond rfl (fun _ => ?_) (fun h => absurd h (by decide))
            refine AWP.seq ?_
            refine AWP.region ?_
            refine Y (Yields.fieldAddr_ptr fo29_2 rfl) rfl ?_
            refine Y (Yields.load_ptr_field (j := 0) kd9 rfl rfl rfl rfl rfl rfl rfl) rfl ?_
            refine Y (bn rfl rfl BinR.seql rfl) rfl ?_
            refine Y (mv rfl) rfl ?_
            refine AOps.split 132 rfl (fun a1 => ?_) (fun a1 => ?_)
            ·
             replace a1 := of_decide_eq_true a1
             refine AOps.on rfl rfl ?_
             refine Y (mv rfl) rfl ?_
             refine AOps.on rfl rfl ?_
             refine Y (bn rfl rfl BinR.eql rfl) rfl ?_
             refine Y (Yields.pick_true rfl rfl) rfl ?_
             refine Y (ass rfl) rfl ?_
             refine AOps.nil ?_
             refine AWP.ret ⟨.inl rfl, ?_⟩
             exact RetIs.oneV rfl rfl (congrArg (fun b => AV.val (Value.bool b)) (by rw [Bool.eq_iff_iff]; first | (simp [shapeV, hN, h8, a1, hlen]; done) | (simp [shapeV, hN, h8, a1, hlen]; omega) | (simp_all [shapeV, hN, h8, a1, hlen]; done) | (simp_all [shapeV, hN, h8, a1, hlen]; omega) | (simp_all [shapeV, hN, h8, a1, hlen]; intros; omega)))
            ·
             replace a1 := of_decide_eq_false a1
             refine AOps.off' rfl rfl rfl rfl ?_
             refine AOps.off' rfl rfl rfl rfl ?_
             refine Y (Yields.pick_false rfl rfl) rfl ?_
             refine Y (ass rfl) rfl ?_
             refine AOps.nil ?_
             refine AWP.ret ⟨.inl rfl, ?_⟩
             exact RetIs.oneV rfl rfl (congrArg (fun b => AV.val (Value.bool b)) (by rw [Bool.eq_iff_iff]; first | (simp [shapeV, hN, h8, a1, hlen]; done) | (simp [shapeV, hN, h8, a1, hlen]; omega) | (simp_all [shapeV, hN, h8, a1, hlen]; done) | (simp_all [shapeV, hN, h8, a1, hlen]; omega) | (simp_all [shapeV, hN, h8, a1, hlen]; intros; omega)))
           ·
            replace h8 := ne_of_beq_false h8
            refine AWP.seq ?_
            refine AWP.region ?_
            refine Y (bn rfl rfl BinR.eql rfl) rfl ?_
            refine Y (ass rfl) rfl ?_
            refine AOps.nil ?_
            refine AWP.condT rfl (fun h13 => ?_) (fun h13 => ?_)
            ·
             replace h13 := eq_of_beq h13
             refine AWP.skip ?_
             refine AWP.cond rfl (fun _ => ?_) (fun h => absurd h (by decide))
             refine AWP.seq ?_
             refine AWP.region ?_
             refine Y (Yields.fieldAddr_ptr fo29_2 rfl) rfl ?_
             refine Y (Yields.load_ptr_field (j := 0) kd9 rfl rfl rfl rfl rfl rfl rfl) rfl ?_
             refine Y (bn rfl rfl BinR.seql rfl) rfl ?_
             refine Y (mv rfl) rfl ?_
             refine AOps.split 132 rfl (fun a1 => ?_) (fun a1 => ?_)
             ·
              replace a1 := of_decide_eq_true a1
              refine AOps.on rfl rfl ?_
              refine Y (mv rfl) rfl ?_
              refine AOps.on rfl rfl ?_
              refine Y (bn rfl rfl BinR.eql rfl) rfl ?_
              refine Y (Yields.pick_true rfl rfl) rfl ?_
              refine Y (ass rfl) rfl ?_
              refine AOps.nil ?_
              refine AWP.ret ⟨.inl rfl, ?_⟩
              exact RetIs.oneV rfl rfl (congrArg (fun b => AV.val (Value.bool b)) (by rw [Bool.eq_iff_iff]; first | (simp [shapeV, hN, h13, a1, hlen]; done) | (simp [shapeV, hN, h13, a1, hlen]; omega) | (simp_all [shapeV, hN, h13, a1, hlen]; done) | (simp_all [shapeV, hN, h13, a1, hlen]; omega) | (simp_all [shapeV, hN, h13, a1, hlen]; intros; omega)))
             ·
              replace a1 := of_decide_eq_false a1
              refine AOps.off' rfl rfl rfl rfl ?_
              refine AOps.off' rfl rfl rfl rfl ?_
              refine Y (Yields.pick_false rfl rfl) rfl ?_
              refine Y (ass rfl) rfl ?_
              refine AOps.nil ?_
              refine AWP.ret ⟨.inl rfl, ?_⟩
              exact RetIs.oneV rfl rfl (congrArg (fun b => AV.val (Value.bool b)) (by rw [Bool.eq_iff_iff]; first | (simp [shapeV, hN, h13, a1, hlen]; done) | (simp [shapeV, hN, h13, a1, hlen]; omega) | (simp_all [shapeV, hN, h13, a1, hlen]; done) | (simp_all [shapeV, hN, h13, a1, hlen]; omega) | (simp_all [shapeV, hN, h13, a1, hlen]; intros; omega)))
            ·
             replace h13 := ne_of_beq_false h13
             refine AWP.region ?_
             refine Y (bn rfl rfl BinR.eql rfl) rfl ?_
             refine Y (ass rfl) rfl ?_
             refine AOps.nil ?_
             refine AWP.condT rfl (fun h15 => ?_) (fun h15 => ?_)
             ·
              replace h15 := eq_of_beq h15
              refine AWP.seq ?_
              refine AWP.region ?_
              refine Y (Yields.fieldAddr_ptr fo29_2 rfl) rfl ?_
              refine Y (Yields.load_ptr_field (j := 0) kd9 rfl rfl rfl rfl rfl rfl rfl) rfl ?_
              refine Y (bn rfl rfl BinR.seql rfl) rfl ?_
              refine Y (mv rfl) rfl ?_
              refine AOps.split 132 rfl (fun a1 => ?_) (fun a1 => ?_)
              ·
               replace a1 := of_decide_eq_true a1
               refine AOps.on rfl rfl ?_
               refine Y (mv rfl) rfl ?_
               refine AOps.on rfl rfl ?_
               refine Y (bn rfl rfl BinR.eql rfl) rfl ?_
               refine Y (Yields.pick_true rfl rfl) rfl ?_
               refine Y (ass rfl) rfl ?_
               refine AOps.nil ?_
               refine AWP.ret ⟨.inl rfl, ?_⟩
               exact RetIs.oneV rfl rfl (congrArg (fun b => AV.val (Value.bool b)) (by rw [Bool.eq_iff_iff]; first | (simp [shapeV, hN, h15, a1, hlen]; done) | (simp [shapeV, hN, h15, a1, hlen]; omega) | (simp_all [shapeV, hN, h15, a1, hlen]; done) | (simp_all [shapeV, hN, h15, a1, hlen]; omega) | (simp_all [shapeV, hN, h15, a1, hlen]; intros; omega)))
              ·
               replace a1 := of_decide_eq_false a1
               refine AOps.off' rfl rfl rfl rfl ?_
               refine AOps.off' rfl rfl rfl rfl ?_
               refine Y (Yields.pick_false rfl rfl) rfl ?_
               refine Y (ass rfl) rfl ?_
               refine AOps.nil ?_
               refine AWP.ret ⟨.inl rfl, ?_⟩
               exact RetIs.oneV rfl rfl (congrArg (fun b => AV.val (Value.bool b)) (by rw [Bool.eq_iff_iff]; first | (simp [shapeV, hN, h15, a1, hlen]; done) | (simp [shapeV, hN, h15, a1, hlen]; omega) | (simp_all [shapeV, hN, h15, a1, hlen]; done) | (simp_all [shapeV, hN, h15, a1, hlen]; omega) | (simp_all [shapeV, hN, h15, a1, hlen]; intros; omega)))
             ·
              replace h15 := ne_of_beq_false h15
              refine AWP.seq ?_
              refine AWP.region ?_
              refine Y (bn rfl rfl BinR.eql rfl) rfl ?_
              refine Y (ass rfl) rfl ?_
              refine AOps.nil ?_
              refine AWP.condT rfl (fun h9 => ?_) (fun h9 => ?_)
              ·
               replace h9 := eq_of_beq h9
               refine AWP.seq ?_
               refine AWP.region ?_
               refine Y (mv rfl) rfl ?_
               refine Y (bn rfl rfl BinR.eql rfl) rfl ?_
               refine Y (mv rfl) rfl ?_
               refine AOps.split 140 rfl (fun a1 => ?_) (fun a1 => ?_)
               ·
                replace a1 := eq_of_beq a1
                refine AOps.on rfl rfl ?_
                refine AOps.buildSlice sl44 z9 rfl rfl rfl rfl rfl fun b2 => ?_
                refine AOps.on rfl rfl ?_
                refine Y (Yields.fieldAddr_ptr fo29_2 rfl) rfl ?_
                refine AOps.on rfl rfl ?_
                refine Y (Yields.load_ptr_field (j := 1) kd9 rfl rfl rfl rfl rfl rfl rfl) rfl ?_
                refine AOps.on rfl rfl ?_
                refine AOps.call (scontains_AF opB t (by decide)) rfl rfl ⟨Bor.loc (j := 0) rfl (by decide) (viewL_refl rfl), Bor.refl rfl, trivial⟩ rfl Free.val ?_
                refine Y (Yields.pick_true rfl rfl) rfl ?_
                refine Y (ass rfl) rfl ?_
                refine AOps.nil ?_
                refine AWP.ret ⟨.inl rfl, ?_⟩
                exact RetIs.oneV rfl rfl (congrArg (fun b => AV.val (Value.bool b)) (by rw [Bool.eq_iff_iff]; first | (simp [shapeV, hN, h9, a1, hlen]; done) | (simp [shapeV, hN, h9, a1, hlen]; omega) | (simp_all [shapeV, hN, h9, a1, hlen]; done) | (simp_all [shapeV, hN, h9, a1, hlen]; omega) | (simp_all [shapeV, hN, h9, a1, hlen]; intros; omega)))
               ·
                replace a1 := ne_of_beq_false a1
                refine AOps.off' rfl rfl rfl rfl ?_
                refine AOps.off' rfl rfl rfl rfl ?_
                refine AOps.off' rfl rfl rfl rfl ?_
                refine AOps.off' rfl rfl rfl rfl ?_
                refine Y (Yields.pick_false rfl rfl) rfl ?_
                refine Y (ass rfl) rfl ?_
                refine AOps.nil ?_
                refine AWP.ret ⟨.inl rfl, ?_⟩
                exact RetIs.oneV rfl rfl (congrArg (fun b => AV.val (Value.bool b)) (by rw [Bool.eq_iff_iff]; first | (simp [shapeV, hN, h9, a1, hlen]; done) | (simp [shapeV, hN, h9, a1, hlen]; omega) | (simp_all [shapeV, hN, h9, a1, hlen]; done) | (simp_all [shapeV, hN, h9, a1, hlen]; omega) | (simp_all [shapeV, hN, h9, a1, hlen]; intros; omega)))
              ·
               replace h9 := ne_of_beq_false h9
               refine AWP.seq ?_
               refine AWP.region ?_
               refine Y (bn rfl rfl BinR.eql rfl) rfl ?_
               refine Y (ass rfl) rfl ?_
               refine AOps.nil ?_
               refine AWP.condT rfl (fun h10 => ?_) (fun h10 => ?_)
               ·
                replace h10 := eq_of_beq h10
                refine AWP.seq ?_
                refine AWP.region ?_
                refine Y (Yields.fieldAddr_ptr fo29_2 rfl) rfl ?_
                refine Y (Yields.load_ptr_field (j := 0) kd9 rfl rfl rfl rfl rfl rfl rfl) rfl ?_
                refine Y (bn rfl rfl BinR.seql rfl) rfl ?_
                refine Y (mv rfl) rfl ?_
                refine AOps.split 151 rfl (fun a1 => ?_) (fun a1 => ?_)
                ·
                 replace a1 := of_decide_eq_true a1
                 refine AOps.on rfl rfl ?_
                 refine Y (mv rfl) rfl ?_
                 refine AOps.on rfl rfl ?_
                 refine Y (bn rfl rfl BinR.eql rfl) rfl ?_
                 refine Y (Yields.pick_true rfl rfl) rfl ?_
                 refine Y (ass rfl) rfl ?_
                 refine AOps.nil ?_
                 refine AWP.ret ⟨.inl rfl, ?_⟩
                 exact RetIs.oneV rfl rfl (congrArg (fun b => AV.val (Value.bool b)) (by rw [Bool.eq_iff_iff]; first | (simp [shapeV, hN, h10, a1, hlen]; done) | (simp [shapeV, hN, h10, a1, hlen]; omega) | (simp_all [shapeV, hN, h10, a1, hlen]; done) | (simp_all [shapeV, hN, h10, a1, hlen]; omega) | (simp_all [shapeV, hN, h10, a1, hlen]; intros; omega)))
                ·
                 replace a1 := of_decide_eq_false a1
                 refine AOps.off' rfl rfl rfl rfl ?_
                 refine AOps.off' rfl rfl rfl rfl ?_
                 refine Y (Yields.pick_false rfl rfl) rfl ?_
                 refine Y (ass rfl) rfl ?_
                 refine AOps.nil ?_
                 refine AWP.ret ⟨.inl rfl, ?_⟩
                 exact RetIs.oneV rfl rfl (congrArg (fun b => AV.val (Value.bool b)) (by rw [Bool.eq_iff_iff]; first | (simp [shapeV, hN, h10, a1, hlen]; done) | (simp [shapeV, hN, h10, a1, hlen]; omega) | (simp_all [shapeV, hN, h10, a1, hlen]; done) | (simp_all [shapeV, hN, h10, a1, hlen]; omega) | (simp_all [shapeV, hN, h10, a1, hlen]; intros; omega)))
               ·
                replace h10 := ne_of_beq_false h10
                refine AWP.seq ?_
                refine AWP.seq ?_
                refine AWP.region ?_
                refine Y (bn rfl rfl BinR.eql rfl) rfl ?_
                refine Y (ass rfl) rfl ?_
                refine AOps.nil ?_
                refine AWP.condT rfl (fun h11 => ?_) (fun h11 => ?_)
                ·
                 replace h11 := eq_of_beq h11
                 refine AWP.skip ?_
                 refine AWP.cond rfl (fun _ => ?_) (fun h => absurd h (by decide))
                 refine AWP.seq ?_
                 refine AWP.region ?_
                 refine Y (Yields.fieldAddr_ptr fo29_2 rfl) rfl ?_
                 refine Y (Yields.load_ptr_field (j := 0) kd9 rfl rfl rfl rfl rfl rfl rfl) rfl ?_
                 refine AOps.callro (nameOk_AF t (by omega)) rfl rfl rfl ?_
                 refine Y (mv rfl) rfl ?_
                 refine AOps.split 161 rfl (fun a1 => ?_) (fun a1 => ?_)
                 ·
                  skip
                  refine AOps.on rfl rfl ?_
                  refine Y (mv rfl) rfl ?_
                  refine AOps.on rfl rfl ?_
                  refine Y (bn rfl rfl BinR.eql rfl) rfl ?_
                  refine Y (Yields.pick_true rfl rfl) rfl ?_
                  refine Y (ass rfl) rfl ?_
                  refine AOps.nil ?_
                  refine AWP.ret ⟨.inl rfl, ?_⟩
                  exact RetIs.oneV rfl rfl (congrArg (fun b => AV.val (Value.bool b)) (by rw [Bool.eq_iff_iff]; first | (simp [shapeV, hN, h11, a1, hlen]; done) | (simp [shapeV, hN, h11, a1, hlen]; omega) | (simp_all [shapeV, hN, h11, a1, hlen]; done) | (simp_all [shapeV, hN, h11, a1, hlen]; omega) | (simp_all [shapeV, hN, h11, a1, hlen]; intros; omega)))
                 ·
                  skip
                  refine AOps.off' rfl rfl rfl rfl ?_
                  refine AOps.off' rfl rfl rfl rfl ?_
                  refine Y (Yields.pick_false rfl rfl) rfl ?_
                  refine Y (ass rfl) rfl ?_
                  refine AOps.nil ?_
                  refine AWP.ret ⟨.inl rfl, ?_⟩
                  exact RetIs.oneV rfl rfl (congrArg (fun b => AV.val (Value.bool b)) (by rw [Bool.eq_iff_iff]; first | (simp [shapeV, hN, h11, a1, hlen]; done) | (simp [shapeV, hN, h11, a1, hlen]; omega) | (simp_all [shapeV, hN, h11, a1, hlen]; done) | (simp_all [shapeV, hN, h11, a1, hlen]; omega) | (simp_all [shapeV, hN, h11, a1, hlen]; intros; omega)))
                ·
                 replace h11 := ne_of_beq_false h11
                 refine AWP.region ?_
                 refine Y (bn rfl rfl BinR.eql rfl) rfl ?_
                 refine Y (ass rfl) rfl ?_
                 refine AOps.nil ?_
                 refine AWP.condT rfl (fun h12 => ?_) (fun h12 => ?_)
                 ·
                  replace h12 := eq_of_beq h12
                  refine AWP.seq ?_
                  refine AWP.region ?_
                  refine Y (Yields.fieldAddr_ptr fo29_2 rfl) rfl ?_
                  refine Y (Yields.load_ptr_field (j := 0) kd9 rfl rfl rfl rfl rfl rfl rfl) rfl ?_
                  refine AOps.callro (nameOk_AF t (by omega)) rfl rfl rfl ?_
                  refine Y (mv rfl) rfl ?_
                  refine AOps.split 161 rfl (fun a1 => ?_) (fun a1 => ?_)
                  ·
                   skip
                   refine AOps.on rfl rfl ?_
                   refine Y (mv rfl) rfl ?_
                   refine AOps.on rfl rfl ?_
                   refine Y (bn rfl rfl BinR.eql rfl) rfl ?_
                   refine Y (Yields.pick_true rfl rfl) rfl ?_
                   refine Y (ass rfl) rfl ?_
                   refine AOps.nil ?_
                   refine AWP.ret ⟨.inl rfl, ?_⟩
                   exact RetIs.oneV rfl rfl (congrArg (fun b => AV.val (Value.bool b)) (by rw [Bool.eq_iff_iff]; first | (simp [shapeV, hN, h12, a1, hlen]; done) | (simp [shapeV, hN, h12, a1, hlen]; omega) | (simp_all [shapeV, hN, h12, a1, hlen]; done) | (simp_all [shapeV, hN, h12, a1, hlen]; omega) | (simp_all [shapeV, hN, h12, a1, hlen]; intros; omega)))
                  ·
                   skip
                   refine AOps.off' rfl rfl rfl rfl ?_
                   refine AOps.off' rfl rfl rfl rfl ?_
                   refine Y (Yields.pick_false rfl rfl) rfl ?_
                   refine Y (ass rfl) rfl ?_
                   refine AOps.nil ?_
                   refine AWP.ret ⟨.inl rfl, ?_⟩
                   exact RetIs.oneV rfl rfl (congrArg (fun b => AV.val (Value.bool b)) (by rw [Bool.eq_iff_iff]; first | (simp [shapeV, hN, h12, a1, hlen]; done) | (simp [shapeV, hN, h12, a1, hlen]; omega) | (simp_all [shapeV, hN, h12, a1, hlen]; done) | (simp_all [shapeV, hN, h12, a1, hlen]; omega) | (simp_all [shapeV, hN, h12, a1, hlen]; intros; omega)))
                 ·
                  replace h12 := ne_of_beq_false h12
                  refine AWP.seq ?_
                  refine AWP.region ?_
                  refine Y (bn rfl rfl BinR.eql rfl) rfl ?_
                  refine Y (ass rfl) rfl ?_
                  refine AOps.nil ?_
                  refine AWP.condT rfl (fun h14 => ?_) (fun h14 => ?_)
                  ·
                   replace h14 := eq_of_beq h14
                   refine AWP.seq ?_
                   refine AWP.region ?_
                   refine Y (Yields.fieldAddr_ptr fo29_2 rfl) rfl ?_
                   refine Y (Yields.load_ptr_field (j := 0) kd9 rfl rfl rfl rfl rfl rfl rfl) rfl ?_
                   refine Y (bn rfl rfl BinR.seql rfl) rfl ?_
                   refine Y (mv rfl) rfl ?_
                   refine AOps.split 170 rfl (fun a1 => ?_) (fun a1 => ?_)
                   ·
                    replace a1 := of_decide_eq_true a1
                    refine AOps.on rfl rfl ?_
                    refine Y (mv rfl) rfl ?_
                    refine AOps.on rfl rfl ?_
                    refine Y (bn rfl rfl BinR.eql rfl) rfl ?_
                    refine Y (Yields.pick_true rfl rfl) rfl ?_
                    refine Y (ass rfl) rfl ?_
                    refine AOps.nil ?_
                    refine AWP.ret ⟨.inl rfl, ?_⟩
                    exact RetIs.oneV rfl rfl (congrArg (fun b => AV.val (Value.bool b)) (by rw [Bool.eq_iff_iff]; first | (simp [shapeV, hN, h14, a1, hlen]; done) | (simp [shapeV, hN, h14, a1, hlen]; omega) | (simp_all [shapeV, hN, h14, a1, hlen]; done) | (simp_all [shapeV, hN, h14, a1, hlen]; omega) | (simp_all [shapeV, hN, h14, a1, hlen]; intros; omega)))
                   ·
                    replace a1 := of_decide_eq_false a1
                    refine AOps.off' rfl rfl rfl rfl ?_
                    refine AOps.off' rfl rfl rfl rfl ?_
                    refine Y (Yields.pick_false rfl rfl) rfl ?_
                    refine Y (ass rfl) rfl ?_
                    refine AOps.nil ?_
                    refine AWP.ret ⟨.inl rfl, ?_⟩
                    exact RetIs.oneV rfl rfl (congrArg (fun b => AV.val (Value.bool b)) (by rw [Bool.eq_iff_iff]; first | (simp [shapeV, hN, h14, a1, hlen]; done) | (simp [shapeV, hN, h14, a1, hlen]; omega) | (simp_all [shapeV, hN, h14, a1, hlen]; done) | (simp_all [shapeV, hN, h14, a1, hlen]; omega) | (simp_all [shapeV, hN, h14, a1, hlen]; intros; omega)))
                  ·
                   replace h14 := ne_of_beq_false h14
                   refine AWP.skip ?_
                   refine AWP.seq ?_
                   refine AWP.region ?_
                   refine Y (ass rfl) rfl ?_
                   refine AOps.nil ?_
                   refine AWP.ret ⟨.inl rfl, ?_⟩
                   exact RetIs.oneV rfl rfl (congrArg (fun b => AV.val (Value.bool b)) (by rw [Bool.eq_iff_iff]; first | (simp [shapeV, hN, h0, h1, h2, h3, h4, h5, h6, h7, h8, h9, h10, h11, h12, h13, h14, h15]; done) | (simp [shapeV, hN, h0, h1, h2, h3, h4, h5, h6, h7, h8, h9, h10, h11, h12, h13, h14, h15]; omega) | (simp_all [shapeV, hN, h0, h1, h2, h3, h4, h5, h6, h7, h8, h9, h10, h11, h12, h13, h14, h15]; done) | (simp_all [shapeV, hN, h0, h1, h2, h3, h4, h5, h6, h7, h8, h9, h10, h11, h12, h13, h14, h15]; omega) | (simp_all [shapeV, hN, h0, h1, h2, h3, h4, h5, h6, h7, h8, h9, h10, h11, h12, h13, h14, h15]; intros; omega)))

mutual
def fitsT : Tr → Int → Int → Bool × Int
  | .mk k nm t ks, n, tall => if 40 < n + 1 ∨ 9 < tall ∨ shapeV k nm t ks.length = false then (false, n + 1) else fitsL ks (n + 1) (tall + 1)
def fitsL : List Tr → Int → Int → Bool × Int
  | [], n, _ => (true, n)
  | k :: ks, n, tall => if (fitsT k n tall).1 = false then (false, (fitsT k n tall).2) else fitsL ks (fitsT k n tall).2 tall
end
mutual
theorem fitsT_le : ∀ (k : Tr) (n tall : Int), 0 ≤ n → n ≤ 40 → 0 ≤ (fitsT k n tall).2 ∧ ((fitsT k n tall).1 = true → (fitsT k n tall).2 ≤ 40)
  | .mk k nm t ks, n, tall, h0, h1 => by
    rw [fitsT]
    split
    · exact ⟨by show 0 ≤ n + 1; omega, fun h => by cases h⟩
    · rename_i hc
      exact fitsL_le ks (n + 1) (tall + 1) (by omega) (by omega)
theorem fitsL_le : ∀ (ks : List Tr) (n tall : Int), 0 ≤ n → n ≤ 40 → 0 ≤ (fitsL ks n tall).2 ∧ ((fitsL ks n tall).1 = true → (fitsL ks n tall).2 ≤ 40)
  | [], n, tall, h0, h1 => by rw [fitsL]; exact ⟨h0, fun _ => h1⟩
  | k :: ks, n, tall, h0, h1 => by
    have hk := fitsT_le k n tall h0 h1
    rw [fitsL]
    split
    · exact ⟨hk.1, fun h => by cases h⟩
    · rename_i hc
      exact fitsL_le ks _ tall hk.1 (hk.2 (by simpa using hc))
end
theorem fits_AF (k : Tr) : ∀ n tall : Int, k.bnd 1000000 → 0 ≤ n → n ≤ 40 → 0 ≤ tall → tall ≤ 10 → AF Tryd.prog gl 46 [k.av, .optr 1 [int n] 0 0, int tall] (bool (fitsT k n tall).1) [.undef, .optr 1 [int (fitsT k n tall).2] 0 0, .undef] := by
  induction k using Tr.ind
  rename_i kd nm t ks ih
  intro n tall hk hn0 hn1 ht0 ht1
  simp only [Tr.bnd] at hk
  obtain ⟨hk1, hk2, hk3⟩ := hk
  have hlen := Tr.avs_length ks
  refine AF.introO 1 Tryd.func46 nm46 rfl rfl rfl rfl rfl fun w0 ok0 own0 bo => ?_
  refine AWP.seq ?_
  refine AWP.region ?_
  refine AOps.box rfl rfl rfl rfl fun b1 => ?_
  refine Y (ass rfl) rfl ?_
  refine AOps.nil ?_
  refine AWP.seq ?_
  refine AWP.region ?_
  refine Y (mv rfl) rfl ?_
  refine Y (Yields.nilCheck_ptr rfl) rfl ?_
  refine Y (Yields.load_ptr_one (j := 1) kd3 rfl rfl rfl rfl rfl) rfl ?_
  refine Y (bn rfl rfl (BinR.addI (by omega) (by omega)) rfl) rfl ?_
  refine Y (Yields.nilCheck_ptr rfl) rfl ?_
  refine AOps.store (j := 1) kd3 rfl rfl rfl rfl rfl rfl ?_
  refine AOps.nil ?_
  refine AWP.seq ?_
  refine AWP.seq ?_
  refine AWP.region ?_
  refine Y (mv rfl) rfl ?_
  refine Y (Yields.nilCheck_ptr rfl) rfl ?_
  refine Y (Yields.load_ptr_one (j := 1) kd3 rfl rfl rfl rfl rfl) rfl ?_
  refine Y (bn rfl rfl BinR.gtr rfl) rfl ?_
  refine Y (mv rfl) rfl ?_
  refine AOps.split 18 rfl (fun a1 => ?_) (fun a1 => ?_)
  ·
   replace a1 := of_decide_eq_true a1
   refine AOps.off' rfl rfl rfl rfl ?_
   refine AOps.off' rfl rfl rfl rfl ?_
   refine Y (Yields.pick_true rfl rfl) rfl ?_
   refine Y (mv rfl) rfl ?_
   refine AOps.off' rfl rfl rfl rfl ?_
   refine AOps.off' rfl rfl rfl rfl ?_
   refine AOps.off' rfl rfl rfl rfl ?_
   refine Y (Yields.pick_true rfl rfl) rfl ?_
   refine AOps.nil ?_
   refine AWP.cond rfl (fun _ => ?_) (fun h => absurd h (by decide))
   refine AWP.seq ?_
   refine AWP.region ?_
   refine Y (ass rfl) rfl ?_
   refine AOps.nil ?_
   refine AWP.ret ⟨.inl rfl, ?_⟩
   exact RetP.eq (RetP.optr (j := 1) rfl rfl rfl rfl) (by (rw [fitsT, if_pos (.inl a1)]) <;> rfl) (by (rw [fitsT, if_pos (.inl a1)]) <;> rfl)
  ·
   replace a1 := of_decide_eq_false a1
   refine AOps.on rfl rfl ?_
   refine Y (mv rfl) rfl ?_
   refine AOps.on rfl rfl ?_
   refine Y (bn rfl rfl BinR.gtr rfl) rfl ?_
   refine Y (Yields.pick_false rfl rfl) rfl ?_
   refine Y (mv rfl) rfl ?_
   refine AOps.split 22 rfl (fun a2 => ?_) (fun a2 => ?_)
   ·
    replace a2 := of_decide_eq_true a2
    refine AOps.off' rfl rfl rfl rfl ?_
    refine AOps.off' rfl rfl rfl rfl ?_
    refine AOps.off' rfl rfl rfl rfl ?_
    refine Y (Yields.pick_true rfl rfl) rfl ?_
    refine AOps.nil ?_
    refine AWP.cond rfl (fun _ => ?_) (fun h => absurd h (by decide))
    refine AWP.seq ?_
    refine AWP.region ?_
    refine Y (ass rfl) rfl ?_
    refine AOps.nil ?_
    refine AWP.ret ⟨.inl rfl, ?_⟩
    exact RetP.eq (RetP.optr (j := 1) rfl rfl rfl rfl) (by (rw [fitsT, if_pos (.inr (.inl a2))]) <;> rfl) (by (rw [fitsT, if_pos (.inr (.inl a2))]) <;> rfl)
   ·
    replace a2 := of_decide_eq_false a2
    refine AOps.on rfl rfl ?_
    refine Y (Yields.load_ptr_agg (j := 0) kd29 rfl rfl rfl rfl) rfl ?_
    refine AOps.on rfl rfl ?_
    refine AOps.callro (shape_AF kd nm t ks hk1 hk2) rfl rfl rfl ?_
    refine AOps.on rfl rfl ?_
    refine Y (Yields.not rfl) rfl ?_
    refine Y (Yields.pick_false rfl rfl) rfl ?_
    refine AOps.nil ?_
    refine AWP.condT rfl (fun a3 => ?_) (fun a3 => ?_)
    ·
     skip
     refine AWP.seq ?_
     refine AWP.region ?_
     have a3 : shapeV kd nm t ks.length = false := by simpa using a3
     refine Y (ass rfl) rfl ?_
     refine AOps.nil ?_
     refine AWP.ret ⟨.inl rfl, ?_⟩
     exact RetP.eq (RetP.optr (j := 1) rfl rfl rfl rfl) (by (rw [fitsT, if_pos (.inr (.inr a3))]) <;> rfl) (by (rw [fitsT, if_pos (.inr (.inr a3))]) <;> rfl)
    ·
     skip
     have a3 : ¬ shapeV kd nm t ks.length = false := by simpa using a3
     have hF : fitsT (.mk kd nm t ks) n tall = fitsL ks (n + 1) (tall + 1) := by rw [fitsT, if_neg (by rintro (q | q | q); exact a1 q; exact a2 q; exact a3 q)]
     refine AWP.skip ?_
     refine AWP.seq ?_
     refine AWP.seq ?_
     refine AWP.region ?_
     refine Y (Yields.fieldAddr_ptr fo29_3 rfl) rfl ?_
     refine Y (Yields.load_ptr_field (j := 0) kd27 rfl rfl rfl rfl rfl rfl rfl) rfl ?_
     refine Y (Yields.len_ro sl27 rfl) rfl ?_
     refine Y (mv rfl) rfl ?_
     refine AOps.nil ?_
     refine AWP.block ?_
     refine AWP.loopV (α := Nat × Int) (fun pp : Nat × Int => match pp with | (i, m) => ⟨[(1, .ptr (some bo) 0 0 1), (2, int tall), (28, .ro 4 (Tr.avs ks) [] false), (29, int (Tr.avs ks).length), (30, int i)], [(some bo, ⟨1, [int m]⟩)]⟩) (fun pp : Nat × Int => match pp with | (i, m) => i ≤ ks.length ∧ 0 ≤ m ∧ m ≤ 40 ∧ fitsL (ks.drop i) m (tall + 1) = fitsL ks (n + 1) (tall + 1)) (fun pp : Nat × Int => match pp with | (i, m) => ks.length - i) ((0, n + 1)) ?_ ?_ ?_
     · exact Leads.rows 1 ⟨rfl, rfl, rfl, rfl, rfl, trivial⟩
     ·
      show 0 ≤ ks.length ∧ 0 ≤ (n + 1) ∧ (n + 1) ≤ 40 ∧ fitsL (ks.drop 0) (n + 1) (tall + 1) = fitsL ks (n + 1) (tall + 1)
      exact ⟨Nat.zero_le _, by omega, by omega, rfl⟩
     ·
      rintro ⟨i, m⟩ hinv
      replace hinv : i ≤ ks.length ∧ 0 ≤ m ∧ m ≤ 40 ∧ fitsL (ks.drop i) m (tall + 1) = fitsL ks (n + 1) (tall + 1) := hinv
      show AWP _ _ _ _ ⟨[(1, .ptr (some bo) 0 0 1), (2, int tall), (28, .ro 4 (Tr.avs ks) [] false), (29, int (Tr.avs ks).length), (30, int i)], [(some bo, ⟨1, [int m]⟩)]⟩
      refine AWP.seq ?_
      refine AWP.region ?_
      obtain ⟨hi, hm0, hm1, hp⟩ := hinv
      refine Y (bn rfl rfl BinR.lss rfl) rfl ?_
      refine AOps.nil ?_
      refine AWP.seq ?_
      refine AWP.condT rfl (fun g => ?_) (fun g => ?_)
      ·
       replace g := of_decide_eq_true g
       obtain ⟨k, hk, hd⟩ := drop_at (l := ks) (i := i) (by omega)
       rw [hd, fitsL] at hp
       obtain ⟨ckd, cnm, ct, cks⟩ := k
       refine AWP.skip ?_
       refine AWP.seq ?_
       refine AWP.block ?_
       refine AWP.seq ?_
       refine AWP.region ?_
       refine Y (Yields.idx_roN sl27 rfl rfl rfl rfl (by omega)) rfl ?_
       refine Y (Yields.load_rop_aggV kd29 rfl (Tr.avs_at hk) rfl) rfl ?_
       refine AOps.alloc rfl z29 rfl rfl fun b2 => ?_
       refine AOps.store (j := 0) kd29 rfl rfl rfl rfl rfl rfl ?_
       refine AOps.nil ?_
       refine AWP.seq ?_
       refine AWP.region ?_
       refine Y (Yields.load_ptr_agg (j := 0) kd29 rfl rfl rfl rfl) rfl ?_
       refine Y (mv rfl) rfl ?_
       refine Y (mv rfl) rfl ?_
       refine Y (bn rfl rfl (BinR.addI (by omega) (by omega)) rfl) rfl ?_
       refine AOps.callP 1 1 (ih _ (List.mem_of_getElem? hk) m (tall + 1) (Tr.bnds_get hk3 hk) hm0 hm1 (by omega) (by omega)) rfl rfl rfl rfl (WkL.refl _) rfl Hand.optr rfl ?_
       have hle := fitsT_le (.mk ckd cnm ct cks) m (tall + 1) hm0 hm1
       refine Y (Yields.not rfl) rfl ?_
       refine AOps.nil ?_
       refine AWP.condT rfl (fun g2 => ?_) (fun g2 => ?_)
       ·
        skip
        refine AWP.seq ?_
        refine AWP.region ?_
        have g2 : (fitsT (.mk ckd cnm ct cks) m (tall + 1)).1 = false := by simpa using g2
        rw [if_pos g2] at hp
        refine Y (ass rfl) rfl ?_
        refine AOps.nil ?_
        refine AWP.ret ⟨.inl rfl, ?_⟩
        exact RetP.eq (RetP.optr (j := 1) rfl rfl rfl rfl) (by (rw [hF, ← hp]) <;> rfl) (by (rw [hF, ← hp]) <;> rfl)
       ·
        skip
        have g2 : (fitsT (.mk ckd cnm ct cks) m (tall + 1)).1 = true := by simpa using g2
        rw [if_neg (by rw [g2]; simp)] at hp
        refine AWP.skip ?_
        refine AWP.region ?_
        refine Y (bn rfl rfl (BinR.addI (by omega) (by omega)) rfl) rfl ?_
        refine Y (mv rfl) rfl ?_
        refine AOps.nil ?_
        refine ⟨(i + 1, (fitsT (.mk ckd cnm ct cks) m (tall + 1)).2), ?_, ?_, ?_⟩
        ·
         show ks.length - (i + 1) < ks.length - i
         omega
        ·
         show (i + 1) ≤ ks.length ∧ 0 ≤ ((fitsT (.mk ckd cnm ct cks) m (tall + 1)).2) ∧ ((fitsT (.mk ckd cnm ct cks) m (tall + 1)).2) ≤ 40 ∧ fitsL (ks.drop (i + 1)) ((fitsT (.mk ckd cnm ct cks) m (tall + 1)).2) (tall + 1) = fitsL ks (n + 1) (tall + 1)
         exact ⟨by omega, hle.1, hle.2 g2, hp⟩
        · exact Leads.rows 1 ⟨rfl, rfl, rfl, rfl, rfl, trivial⟩
      ·
       replace g := of_decide_eq_false g
       rw [List.drop_eq_nil_of_le (by omega), fitsL] at hp
       refine AWP.exit ?_
       refine AWP.seq ?_
       refine AWP.region ?_
       refine Y (ass rfl) rfl ?_
       refine AOps.nil ?_
       refine AWP.ret ⟨.inl rfl, ?_⟩
       exact RetP.eq (RetP.optr (j := 0) rfl rfl rfl rfl) (by (rw [hF, ← hp]) <;> rfl) (by (rw [hF, ← hp]) <;> rfl)
theorem iExprOk_AF (k : Tr) (hk : k.bnd 1000000) : Fn 25 [k.av] (bool (fitsT k 0 1).1) := by
  obtain ⟨kd, nm, t, ks⟩ := k
  refine AF.intro Tryd.func25 nm25 rfl rfl rfl rfl fun w0 ok0 => ?_
  refine AWP.seq ?_
  refine AWP.region ?_
  refine AOps.box rfl rfl rfl rfl fun b1 => ?_
  refine Y (ass rfl) rfl ?_
  refine AOps.nil ?_
  refine AWP.seq ?_
  refine AWP.region ?_
  refine AOps.alloc rfl z3 rfl rfl fun b2 => ?_
  refine AOps.store (j := 0) kd3 rfl rfl rfl rfl rfl rfl ?_
  refine AOps.nil ?_
  refine AWP.seq ?_
  refine AWP.region ?_
  refine Y (Yields.load_ptr_agg (j := 1) kd29 rfl rfl rfl rfl) rfl ?_
  refine AOps.callP 1 0 (fits_AF (.mk kd nm t ks) 0 1 hk (by omega) (by omega) (by omega) (by omega)) rfl rfl rfl rfl (WkL.refl _) rfl Hand.optr rfl ?_
  refine Y (ass rfl) rfl ?_
  refine AOps.nil ?_
  refine AWP.ret ⟨.inl rfl, ?_⟩
  exact RetIs.oneV rfl rfl (by (rfl) <;> rfl)

def textV (k : Int) (t : ByteArray) : Bool :=
  if k = 2 then isWordL t.data.toList
  else if k = 3 ∨ k = 4 ∨ k = 5 ∨ k = 6 ∨ k = 11 ∨ k = 12 then isNameL t.data.toList
  else if k = 7 then typeOkL (listT t).data.toList
  else if k = 9 then memB opB t
  else decide (t = ⟨#[]⟩)
def lowV (k : Int) : Int := if k = 5 ∨ k = 6 ∨ k = 8 ∨ k = 13 ∨ k = 15 then 1 else if k = 9 ∨ k = 11 ∨ k = 12 ∨ k = 14 then 2 else if k = 10 then 3 else 0
def highV (k : Int) : Int := if k = 4 ∨ k = 7 ∨ k = 5 then 4 else lowV k
def mostV (k : Int) : Int := if k = 0 then 9999 else if k = 1 then 1 else 0
theorem operators_AF : Fn 86 [] (.own 1 (strs opB) []) := by
  refine AF.intro Tryd.func86 nm86 rfl rfl rfl rfl fun w0 ok0 => ?_
  refine AWP.seq ?_
  refine AWP.region ?_
  refine Y (ass rfl) rfl ?_
  refine AOps.nil ?_
  refine AWP.seq ?_
  refine AWP.region ?_
  refine AOps.buildSlice sl44 z9 rfl rfl rfl rfl rfl fun b1 => ?_
  refine Y (ass rfl) rfl ?_
  refine AOps.nil ?_
  refine AWP.ret ⟨.inl rfl, ?_⟩
  exact RetIs.ownV (j := 0) rfl rfl rfl (by decide) (by decide) rfl
theorem validText_AF (kd nm : Int) (t : ByteArray) (ks : List Tr) (ht : t.size ≤ 1000000) : Fn 66 [Tr.av (.mk kd nm t ks)] (bool (textV kd t)) := by
  have hls := listT_size t
  refine AF.intro Tryd.func66 nm66 rfl rfl rfl rfl fun w0 ok0 => ?_
  refine AWP.seq ?_
  refine AWP.region ?_
  refine AOps.box rfl rfl rfl rfl fun b1 => ?_
  refine Y (ass rfl) rfl ?_
  refine AOps.nil ?_
  refine AWP.seq ?_
  refine AWP.seq ?_
  refine AWP.region ?_
  refine Y (Yields.fieldAddr_ptr fo29_0 rfl) rfl ?_
  refine Y (Yields.load_ptr_field (j := 0) kd3 rfl rfl rfl rfl rfl rfl rfl) rfl ?_
  refine AOps.nil ?_
  refine AWP.block ?_
  refine AWP.seq ?_
  refine AWP.region ?_
  refine Y (bn rfl rfl BinR.eql rfl) rfl ?_
  refine Y (ass rfl) rfl ?_
  refine AOps.nil ?_
  refine AWP.condT rfl (fun h2 => ?_) (fun h2 => ?_)
  ·
   replace h2 := eq_of_beq h2
   refine AWP.seq ?_
   refine AWP.region ?_
   refine Y (Yields.fieldAddr_ptr fo29_2 rfl) rfl ?_
   refine Y (Yields.load_ptr_field (j := 0) kd9 rfl rfl rfl rfl rfl rfl rfl) rfl ?_
   refine AOps.callro (isWord_AF t (by omega)) rfl rfl rfl ?_
   refine Y (ass rfl) rfl ?_
   refine AOps.nil ?_
   refine AWP.ret ⟨.inl rfl, ?_⟩
   exact RetIs.oneV rfl rfl (congrArg (fun b => AV.val (Value.bool b)) (by rw [Bool.eq_iff_iff]; first | (simp [textV, h2]; done) | (simp [textV, h2]; omega) | (simp_all [textV, h2]; done) | (simp_all [textV, h2]; omega) | (simp_all [textV, h2]; intros; omega)))
  ·
   replace h2 := ne_of_beq_false h2
   refine AWP.seq ?_
   refine AWP.seq ?_
   refine AWP.region ?_
   refine Y (bn rfl rfl BinR.eql rfl) rfl ?_
   refine Y (ass rfl) rfl ?_
   refine AOps.nil ?_
   refine AWP.condT rfl (fun h3 => ?_) (fun h3 => ?_)
   ·
    replace h3 := eq_of_beq h3
    refine AWP.skip ?_
    refine AWP.cond rfl (fun _ => ?_) (fun h => absurd h (by decide))
    refine AWP.seq ?_
    refine AWP.region ?_
    refine Y (Yields.fieldAddr_ptr fo29_2 rfl) rfl ?_
    refine Y (Yields.load_ptr_field (j := 0) kd9 rfl rfl rfl rfl rfl rfl rfl) rfl ?_
    refine AOps.callro (isName_AF t (by omega)) rfl rfl rfl ?_
    refine Y (ass rfl) rfl ?_
    refine AOps.nil ?_
    refine AWP.ret ⟨.inl rfl, ?_⟩
    exact RetIs.oneV rfl rfl (congrArg (fun b => AV.val (Value.bool b)) (by rw [Bool.eq_iff_iff]; first | (simp [textV, h3]; done) | (simp [textV, h3]; omega) | (simp_all [textV, h3]; done) | (simp_all [textV, h3]; omega) | (simp_all [textV, h3]; intros; omega)))
   ·
    replace h3 := ne_of_beq_false h3
    refine AWP.seq ?_
    refine AWP.region ?_
    refine Y (bn rfl rfl BinR.eql rfl) rfl ?_
    refine Y (ass rfl) rfl ?_
    refine AOps.nil ?_
    refine AWP.condT rfl (fun h4 => ?_) (fun h4 => ?_)
    ·
     replace h4 := eq_of_beq h4
     refine AWP.skip ?_
     refine AWP.cond rfl (fun _ => ?_) (fun h => absurd h (by decide))
     refine AWP.seq ?_
     refine AWP.region ?_
     refine Y (Yields.fieldAddr_ptr fo29_2 rfl) rfl ?_
     refine Y (Yields.load_ptr_field (j := 0) kd9 rfl rfl rfl rfl rfl rfl rfl) rfl ?_
     refine AOps.callro (isName_AF t (by omega)) rfl rfl rfl ?_
     refine Y (ass rfl) rfl ?_
     refine AOps.nil ?_
     refine AWP.ret ⟨.inl rfl, ?_⟩
     exact RetIs.oneV rfl rfl (congrArg (fun b => AV.val (Value.bool b)) (by rw [Bool.eq_iff_iff]; first | (simp [textV, h4]; done) | (simp [textV, h4]; omega) | (simp_all [textV, h4]; done) | (simp_all [textV, h4]; omega) | (simp_all [textV, h4]; intros; omega)))
    ·
     replace h4 := ne_of_beq_false h4
     refine AWP.seq ?_
     refine AWP.region ?_
     refine Y (bn rfl rfl BinR.eql rfl) rfl ?_
     refine Y (ass rfl) rfl ?_
     refine AOps.nil ?_
     refine AWP.condT rfl (fun h5 => ?_) (fun h5 => ?_)
     ·
      replace h5 := eq_of_beq h5
      refine AWP.skip ?_
      refine AWP.cond rfl (fun _ => ?_) (fun h => absurd h (by decide))
      refine AWP.seq ?_
      refine AWP.region ?_
      refine Y (Yields.fieldAddr_ptr fo29_2 rfl) rfl ?_
      refine Y (Yields.load_ptr_field (j := 0) kd9 rfl rfl rfl rfl rfl rfl rfl) rfl ?_
      refine AOps.callro (isName_AF t (by omega)) rfl rfl rfl ?_
      refine Y (ass rfl) rfl ?_
      refine AOps.nil ?_
      refine AWP.ret ⟨.inl rfl, ?_⟩
      exact RetIs.oneV rfl rfl (congrArg (fun b => AV.val (Value.bool b)) (by rw [Bool.eq_iff_iff]; first | (simp [textV, h5]; done) | (simp [textV, h5]; omega) | (simp_all [textV, h5]; done) | (simp_all [textV, h5]; omega) | (simp_all [textV, h5]; intros; omega)))
     ·
      replace h5 := ne_of_beq_false h5
      refine AWP.seq ?_
      refine AWP.region ?_
      refine Y (bn rfl rfl BinR.eql rfl) rfl ?_
      refine Y (ass rfl) rfl ?_
      refine AOps.nil ?_
      refine AWP.condT rfl (fun h6 => ?_) (fun h6 => ?_)
      ·
       replace h6 := eq_of_beq h6
       refine AWP.skip ?_
       refine AWP.cond rfl (fun _ => ?_) (fun h => absurd h (by decide))
       refine AWP.seq ?_
       refine AWP.region ?_
       refine Y (Yields.fieldAddr_ptr fo29_2 rfl) rfl ?_
       refine Y (Yields.load_ptr_field (j := 0) kd9 rfl rfl rfl rfl rfl rfl rfl) rfl ?_
       refine AOps.callro (isName_AF t (by omega)) rfl rfl rfl ?_
       refine Y (ass rfl) rfl ?_
       refine AOps.nil ?_
       refine AWP.ret ⟨.inl rfl, ?_⟩
       exact RetIs.oneV rfl rfl (congrArg (fun b => AV.val (Value.bool b)) (by rw [Bool.eq_iff_iff]; first | (simp [textV, h6]; done) | (simp [textV, h6]; omega) | (simp_all [textV, h6]; done) | (simp_all [textV, h6]; omega) | (simp_all [textV, h6]; intros; omega)))
      ·
       replace h6 := ne_of_beq_false h6
       refine AWP.seq ?_
       refine AWP.region ?_
       refine Y (bn rfl rfl BinR.eql rfl) rfl ?_
       refine Y (ass rfl) rfl ?_
       refine AOps.nil ?_
       refine AWP.condT rfl (fun h11 => ?_) (fun h11 => ?_)
       ·
        replace h11 := eq_of_beq h11
        refine AWP.skip ?_
        refine AWP.cond rfl (fun _ => ?_) (fun h => absurd h (by decide))
        refine AWP.seq ?_
        refine AWP.region ?_
        refine Y (Yields.fieldAddr_ptr fo29_2 rfl) rfl ?_
        refine Y (Yields.load_ptr_field (j := 0) kd9 rfl rfl rfl rfl rfl rfl rfl) rfl ?_
        refine AOps.callro (isName_AF t (by omega)) rfl rfl rfl ?_
        refine Y (ass rfl) rfl ?_
        refine AOps.nil ?_
        refine AWP.ret ⟨.inl rfl, ?_⟩
        exact RetIs.oneV rfl rfl (congrArg (fun b => AV.val (Value.bool b)) (by rw [Bool.eq_iff_iff]; first | (simp [textV, h11]; done) | (simp [textV, h11]; omega) | (simp_all [textV, h11]; done) | (simp_all [textV, h11]; omega) | (simp_all [textV, h11]; intros; omega)))
       ·
        replace h11 := ne_of_beq_false h11
        refine AWP.region ?_
        refine Y (bn rfl rfl BinR.eql rfl) rfl ?_
        refine Y (ass rfl) rfl ?_
        refine AOps.nil ?_
        refine AWP.condT rfl (fun h12 => ?_) (fun h12 => ?_)
        ·
         replace h12 := eq_of_beq h12
         refine AWP.seq ?_
         refine AWP.region ?_
         refine Y (Yields.fieldAddr_ptr fo29_2 rfl) rfl ?_
         refine Y (Yields.load_ptr_field (j := 0) kd9 rfl rfl rfl rfl rfl rfl rfl) rfl ?_
         refine AOps.callro (isName_AF t (by omega)) rfl rfl rfl ?_
         refine Y (ass rfl) rfl ?_
         refine AOps.nil ?_
         refine AWP.ret ⟨.inl rfl, ?_⟩
         exact RetIs.oneV rfl rfl (congrArg (fun b => AV.val (Value.bool b)) (by rw [Bool.eq_iff_iff]; first | (simp [textV, h12]; done) | (simp [textV, h12]; omega) | (simp_all [textV, h12]; done) | (simp_all [textV, h12]; omega) | (simp_all [textV, h12]; intros; omega)))
        ·
         replace h12 := ne_of_beq_false h12
         refine AWP.seq ?_
         refine AWP.region ?_
         refine Y (bn rfl rfl BinR.eql rfl) rfl ?_
         refine Y (ass rfl) rfl ?_
         refine AOps.nil ?_
         refine AWP.condT rfl (fun h7 => ?_) (fun h7 => ?_)
         ·
          replace h7 := eq_of_beq h7
          refine AWP.seq ?_
          refine AWP.region ?_
          refine Y (Yields.fieldAddr_ptr fo29_2 rfl) rfl ?_
          refine Y (Yields.load_ptr_field (j := 0) kd9 rfl rfl rfl rfl rfl rfl rfl) rfl ?_
          refine Y (bn rfl rfl (BinR.sadd (by exact add1 (by omega))) rfl) rfl ?_
          refine Y (bn rfl rfl (BinR.sadd (by exact add2 (by omega))) rfl) rfl ?_
          refine AOps.callro (sTypeOk_AF (listT t) (by omega)) rfl rfl rfl ?_
          refine Y (ass rfl) rfl ?_
          refine AOps.nil ?_
          refine AWP.ret ⟨.inl rfl, ?_⟩
          exact RetIs.oneV rfl rfl (congrArg (fun b => AV.val (Value.bool b)) (by rw [Bool.eq_iff_iff]; first | (simp [textV, h7]; done) | (simp [textV, h7]; omega) | (simp_all [textV, h7]; done) | (simp_all [textV, h7]; omega) | (simp_all [textV, h7]; intros; omega)))
         ·
          replace h7 := ne_of_beq_false h7
          refine AWP.seq ?_
          refine AWP.region ?_
          refine Y (bn rfl rfl BinR.eql rfl) rfl ?_
          refine Y (ass rfl) rfl ?_
          refine AOps.nil ?_
          refine AWP.condT rfl (fun h9 => ?_) (fun h9 => ?_)
          ·
           replace h9 := eq_of_beq h9
           refine AWP.seq ?_
           refine AWP.prune (tm' := [(0, _), (1, _), (2, _), (4, _), (5, _), (10, _), (20, _), (27, _)]) ⟨rfl, rfl, rfl, rfl, rfl, rfl, rfl, rfl, trivial⟩ ?_
           refine AWP.drawn mixed rfl rfl ?_
           refine D (tm' := []) trivial (DStep.callv (operators_AF) rfl trivial (Free.own (freeL_strs _) trivial) (View.own (viewL_refl rfl) (viewL_refl rfl))) rfl ?_
           refine D (tm' := [(1, _)]) ⟨rfl, trivial⟩ (DStep.yields (Yields.fieldAddr_ptr fo29_2 rfl)) rfl ?_
           refine D (tm' := [(30, _)]) ⟨rfl, trivial⟩ (DStep.yields (Yields.load_ptr_field (j := 0) kd9 rfl rfl rfl rfl rfl rfl rfl)) rfl ?_
           refine D (tm' := [(29, _), (31, _)]) ⟨rfl, rfl, trivial⟩ (DStep.callro (inTexts_AF opB [] false t (by decide)) rfl rfl) rfl ?_
           refine D (tm' := [(32, _)]) ⟨rfl, trivial⟩ (DStep.yields (ass rfl)) rfl ?_
           refine DOps.nil ?_
           refine AWP.ret ⟨.inl rfl, ?_⟩
           exact RetIs.oneV rfl rfl (congrArg (fun b => AV.val (Value.bool b)) (by rw [Bool.eq_iff_iff]; first | (simp [textV, h9]; done) | (simp [textV, h9]; omega) | (simp_all [textV, h9]; done) | (simp_all [textV, h9]; omega) | (simp_all [textV, h9]; intros; omega)))
          ·
           replace h9 := ne_of_beq_false h9
           refine AWP.skip ?_
           refine AWP.seq ?_
           refine AWP.region ?_
           refine Y (Yields.fieldAddr_ptr fo29_2 rfl) rfl ?_
           refine Y (Yields.load_ptr_field (j := 0) kd9 rfl rfl rfl rfl rfl rfl rfl) rfl ?_
           refine Y (bn rfl rfl BinR.seql rfl) rfl ?_
           refine Y (ass rfl) rfl ?_
           refine AOps.nil ?_
           refine AWP.ret ⟨.inl rfl, ?_⟩
           exact RetIs.oneV rfl rfl (congrArg (fun b => AV.val (Value.bool b)) (by rw [Bool.eq_iff_iff]; first | (simp [textV, h2, h3, h4, h5, h6, h11, h12, h7, h9]; done) | (simp [textV, h2, h3, h4, h5, h6, h11, h12, h7, h9]; omega) | (simp_all [textV, h2, h3, h4, h5, h6, h11, h12, h7, h9]; done) | (simp_all [textV, h2, h3, h4, h5, h6, h11, h12, h7, h9]; omega) | (simp_all [textV, h2, h3, h4, h5, h6, h11, h12, h7, h9]; intros; omega)))
theorem kidsOf_AF (k : Int) : Fn 67 [int k] (.tup [int (lowV k), int (highV k)]) := by
  refine AF.intro Tryd.func67 nm67 rfl rfl rfl rfl fun w0 ok0 => ?_
  refine AWP.seq ?_
  refine AWP.region ?_
  refine Y (ass rfl) rfl ?_
  refine Y (ass rfl) rfl ?_
  refine AOps.nil ?_
  refine AWP.seq ?_
  refine AWP.seq ?_
  refine AWP.region ?_
  refine Y (mv rfl) rfl ?_
  refine AOps.nil ?_
  refine AWP.block ?_
  refine AWP.seq ?_
  refine AWP.seq ?_
  refine AWP.region ?_
  refine Y (bn rfl rfl BinR.eql rfl) rfl ?_
  refine Y (ass rfl) rfl ?_
  refine AOps.nil ?_
  refine AWP.condT rfl (fun h4 => ?_) (fun h4 => ?_)
  ·
   replace h4 := eq_of_beq h4
   refine AWP.skip ?_
   refine AWP.cond rfl (fun _ => ?_) (fun h => absurd h (by decide))
   refine AWP.seq ?_
   refine AWP.region ?_
   refine Y (ass rfl) rfl ?_
   refine Y (ass rfl) rfl ?_
   refine AOps.nil ?_
   refine AWP.ret ⟨.inl rfl, ?_⟩
   exact RetIs.twoV rfl rfl rfl (by (simp [lowV, highV, h4]; first | done | exact ⟨rfl, rfl⟩ | rfl) <;> rfl)
  ·
   replace h4 := ne_of_beq_false h4
   refine AWP.region ?_
   refine Y (bn rfl rfl BinR.eql rfl) rfl ?_
   refine Y (ass rfl) rfl ?_
   refine AOps.nil ?_
   refine AWP.condT rfl (fun h7 => ?_) (fun h7 => ?_)
   ·
    replace h7 := eq_of_beq h7
    refine AWP.seq ?_
    refine AWP.region ?_
    refine Y (ass rfl) rfl ?_
    refine Y (ass rfl) rfl ?_
    refine AOps.nil ?_
    refine AWP.ret ⟨.inl rfl, ?_⟩
    exact RetIs.twoV rfl rfl rfl (by (simp [lowV, highV, h7]; first | done | exact ⟨rfl, rfl⟩ | rfl) <;> rfl)
   ·
    replace h7 := ne_of_beq_false h7
    refine AWP.seq ?_
    refine AWP.region ?_
    refine Y (bn rfl rfl BinR.eql rfl) rfl ?_
    refine Y (ass rfl) rfl ?_
    refine AOps.nil ?_
    refine AWP.condT rfl (fun h5 => ?_) (fun h5 => ?_)
    ·
     replace h5 := eq_of_beq h5
     refine AWP.seq ?_
     refine AWP.region ?_
     refine Y (ass rfl) rfl ?_
     refine Y (ass rfl) rfl ?_
     refine AOps.nil ?_
     refine AWP.ret ⟨.inl rfl, ?_⟩
     exact RetIs.twoV rfl rfl rfl (by (simp [lowV, highV, h5]; first | done | exact ⟨rfl, rfl⟩ | rfl) <;> rfl)
    ·
     replace h5 := ne_of_beq_false h5
     refine AWP.seq ?_
     refine AWP.seq ?_
     refine AWP.region ?_
     refine Y (bn rfl rfl BinR.eql rfl) rfl ?_
     refine Y (ass rfl) rfl ?_
     refine AOps.nil ?_
     refine AWP.condT rfl (fun h6 => ?_) (fun h6 => ?_)
     ·
      replace h6 := eq_of_beq h6
      refine AWP.skip ?_
      refine AWP.cond rfl (fun _ => ?_) (fun h => absurd h (by decide))
      refine AWP.seq ?_
      refine AWP.region ?_
      refine Y (ass rfl) rfl ?_
      refine Y (ass rfl) rfl ?_
      refine AOps.nil ?_
      refine AWP.ret ⟨.inl rfl, ?_⟩
      exact RetIs.twoV rfl rfl rfl (by (simp [lowV, highV, h6]; first | done | exact ⟨rfl, rfl⟩ | rfl) <;> rfl)
     ·
      replace h6 := ne_of_beq_false h6
      refine AWP.seq ?_
      refine AWP.region ?_
      refine Y (bn rfl rfl BinR.eql rfl) rfl ?_
      refine Y (ass rfl) rfl ?_
      refine AOps.nil ?_
      refine AWP.condT rfl (fun h8 => ?_) (fun h8 => ?_)
      ·
       replace h8 := eq_of_beq h8
       refine AWP.skip ?_
       refine AWP.cond rfl (fun _ => ?_) (fun h => absurd h (by decide))
       refine AWP.seq ?_
       refine AWP.region ?_
       refine Y (ass rfl) rfl ?_
       refine Y (ass rfl) rfl ?_
       refine AOps.nil ?_
       refine AWP.ret ⟨.inl rfl, ?_⟩
       exact RetIs.twoV rfl rfl rfl (by (simp [lowV, highV, h8]; first | done | exact ⟨rfl, rfl⟩ | rfl) <;> rfl)
      ·
       replace h8 := ne_of_beq_false h8
       refine AWP.seq ?_
       refine AWP.region ?_
       refine Y (bn rfl rfl BinR.eql rfl) rfl ?_
       refine Y (ass rfl) rfl ?_
       refine AOps.nil ?_
       refine AWP.condT rfl (fun h13 => ?_) (fun h13 => ?_)
       ·
        replace h13 := eq_of_beq h13
        refine AWP.skip ?_
        refine AWP.cond rfl (fun _ => ?_) (fun h => absurd h (by decide))
        refine AWP.seq ?_
        refine AWP.region ?_
        refine Y (ass rfl) rfl ?_
        refine Y (ass rfl) rfl ?_
        refine AOps.nil ?_
        refine AWP.ret ⟨.inl rfl, ?_⟩
        exact RetIs.twoV rfl rfl rfl (by (simp [lowV, highV, h13]; first | done | exact ⟨rfl, rfl⟩ | rfl) <;> rfl)
       ·
        replace h13 := ne_of_beq_false h13
        refine AWP.region ?_
        refine Y (bn rfl rfl BinR.eql rfl) rfl ?_
        refine Y (ass rfl) rfl ?_
        refine AOps.nil ?_
        refine AWP.condT rfl (fun h15 => ?_) (fun h15 => ?_)
        ·
         replace h15 := eq_of_beq h15
         refine AWP.seq ?_
         refine AWP.region ?_
         refine Y (ass rfl) rfl ?_
         refine Y (ass rfl) rfl ?_
         refine AOps.nil ?_
         refine AWP.ret ⟨.inl rfl, ?_⟩
         exact RetIs.twoV rfl rfl rfl (by (simp [lowV, highV, h15]; first | done | exact ⟨rfl, rfl⟩ | rfl) <;> rfl)
        ·
         replace h15 := ne_of_beq_false h15
         refine AWP.seq ?_
         refine AWP.seq ?_
         refine AWP.region ?_
         refine Y (bn rfl rfl BinR.eql rfl) rfl ?_
         refine Y (ass rfl) rfl ?_
         refine AOps.nil ?_
         refine AWP.condT rfl (fun h9 => ?_) (fun h9 => ?_)
         ·
          replace h9 := eq_of_beq h9
          refine AWP.skip ?_
          refine AWP.cond rfl (fun _ => ?_) (fun h => absurd h (by decide))
          refine AWP.seq ?_
          refine AWP.region ?_
          refine Y (ass rfl) rfl ?_
          refine Y (ass rfl) rfl ?_
          refine AOps.nil ?_
          refine AWP.ret ⟨.inl rfl, ?_⟩
          exact RetIs.twoV rfl rfl rfl (by (simp [lowV, highV, h9]; first | done | exact ⟨rfl, rfl⟩ | rfl) <;> rfl)
         ·
          replace h9 := ne_of_beq_false h9
          refine AWP.seq ?_
          refine AWP.region ?_
          refine Y (bn rfl rfl BinR.eql rfl) rfl ?_
          refine Y (ass rfl) rfl ?_
          refine AOps.nil ?_
          refine AWP.condT rfl (fun h11 => ?_) (fun h11 => ?_)
          ·
           replace h11 := eq_of_beq h11
           refine AWP.skip ?_
           refine AWP.cond rfl (fun _ => ?_) (fun h => absurd h (by decide))
           refine AWP.seq ?_
           refine AWP.region ?_
           refine Y (ass rfl) rfl ?_
           refine Y (ass rfl) rfl ?_
           refine AOps.nil ?_
           refine AWP.ret ⟨.inl rfl, ?_⟩
           exact RetIs.twoV rfl rfl rfl (by (simp [lowV, highV, h11]; first | done | exact ⟨rfl, rfl⟩ | rfl) <;> rfl)
          ·
           replace h11 := ne_of_beq_false h11
           refine AWP.seq ?_
           refine AWP.region ?_
           refine Y (bn rfl rfl BinR.eql rfl) rfl ?_
           refine Y (ass rfl) rfl ?_
           refine AOps.nil ?_
           refine AWP.condT rfl (fun h12 => ?_) (fun h12 => ?_)
           ·
            replace h12 := eq_of_beq h12
            refine AWP.skip ?_
            refine AWP.cond rfl (fun _ => ?_) (fun h => absurd h (by decide))
            refine AWP.seq ?_
            refine AWP.region ?_
            refine Y (ass rfl) rfl ?_
            refine Y (ass rfl) rfl ?_
            refine AOps.nil ?_
            refine AWP.ret ⟨.inl rfl, ?_⟩
            exact RetIs.twoV rfl rfl rfl (by (simp [lowV, highV, h12]; first | done | exact ⟨rfl, rfl⟩ | rfl) <;> rfl)
           ·
            replace h12 := ne_of_beq_false h12
            refine AWP.region ?_
            refine Y (bn rfl rfl BinR.eql rfl) rfl ?_
            refine Y (ass rfl) rfl ?_
            refine AOps.nil ?_
            refine AWP.condT rfl (fun h14 => ?_) (fun h14 => ?_)
            ·
             replace h14 := eq_of_beq h14
             refine AWP.seq ?_
             refine AWP.region ?_
             refine Y (ass rfl) rfl ?_
             refine Y (ass rfl) rfl ?_
             refine AOps.nil ?_
             refine AWP.ret ⟨.inl rfl, ?_⟩
             exact RetIs.twoV rfl rfl rfl (by (simp [lowV, highV, h14]; first | done | exact ⟨rfl, rfl⟩ | rfl) <;> rfl)
            ·
             replace h14 := ne_of_beq_false h14
             refine AWP.seq ?_
             refine AWP.region ?_
             refine Y (bn rfl rfl BinR.eql rfl) rfl ?_
             refine Y (ass rfl) rfl ?_
             refine AOps.nil ?_
             refine AWP.condT rfl (fun h10 => ?_) (fun h10 => ?_)
             ·
              replace h10 := eq_of_beq h10
              refine AWP.seq ?_
              refine AWP.region ?_
              refine Y (ass rfl) rfl ?_
              refine Y (ass rfl) rfl ?_
              refine AOps.nil ?_
              refine AWP.ret ⟨.inl rfl, ?_⟩
              exact RetIs.twoV rfl rfl rfl (by (simp [lowV, highV, h10]; first | done | exact ⟨rfl, rfl⟩ | rfl) <;> rfl)
             ·
              replace h10 := ne_of_beq_false h10
              refine AWP.skip ?_
              refine AWP.seq ?_
              refine AWP.region ?_
              refine Y (ass rfl) rfl ?_
              refine Y (ass rfl) rfl ?_
              refine AOps.nil ?_
              refine AWP.ret ⟨.inl rfl, ?_⟩
              exact RetIs.twoV rfl rfl rfl (by (simp [lowV, highV, h4, h7, h5, h6, h8, h13, h15, h9, h11, h12, h14, h10]; first | done | exact ⟨rfl, rfl⟩ | rfl) <;> rfl)
mutual
def validS : Tr → Int → Bool
  | .mk k nm t ks, d => if d = 0 ∨ inR k 0 15 = false ∨ textV k t = false ∨ inR nm 0 (mostV k) = false ∨ inR ks.length (lowV k) (highV k) = false then false else validSs ks (d - 1)
def validSs : List Tr → Int → Bool
  | [], _ => true
  | k :: ks, d => validS k d && validSs ks d
end
theorem validS_AF (k : Tr) : ∀ d : Int, k.bnd 1000000 → 0 ≤ d → d ≤ 9 → Fn 41 [k.av, int d] (bool (validS k d)) := by
  induction k using Tr.ind
  rename_i kd nm t ks ih
  intro d hk hd0 hd1
  simp only [Tr.bnd] at hk
  obtain ⟨hk1, hk2, hk3⟩ := hk
  have hlen := Tr.avs_length ks
  refine AF.intro Tryd.func41 nm41 rfl rfl rfl rfl fun w0 ok0 => ?_
  refine AWP.seq ?_
  refine AWP.region ?_
  refine AOps.box rfl rfl rfl rfl fun b1 => ?_
  refine Y (ass rfl) rfl ?_
  refine AOps.nil ?_
  refine AWP.seq ?_
  refine AWP.seq ?_
  refine AWP.region ?_
  refine Y (mv rfl) rfl ?_
  refine Y (bn rfl rfl BinR.eql rfl) rfl ?_
  refine Y (mv rfl) rfl ?_
  refine AOps.split 11 rfl (fun a1 => ?_) (fun a1 => ?_)
  ·
   replace a1 := eq_of_beq a1
   refine AOps.off' rfl rfl rfl rfl ?_
   refine AOps.off' rfl rfl rfl rfl ?_
   refine AOps.off' rfl rfl rfl rfl ?_
   refine AOps.off' rfl rfl rfl rfl ?_
   refine Y (Yields.pick_true rfl rfl) rfl ?_
   refine Y (mv rfl) rfl ?_
   refine AOps.off' rfl rfl rfl rfl ?_
   refine AOps.off' rfl rfl rfl rfl ?_
   refine AOps.off' rfl rfl rfl rfl ?_
   refine Y (Yields.pick_true rfl rfl) rfl ?_
   refine AOps.nil ?_
   refine AWP.cond rfl (fun _ => ?_) (fun h => absurd h (by decide))
   refine AWP.seq ?_
   refine AWP.region ?_
   refine Y (ass rfl) rfl ?_
   refine AOps.nil ?_
   refine AWP.ret ⟨.inl rfl, ?_⟩
   exact RetIs.oneV rfl rfl (by (rw [validS, if_pos (.inl a1)]) <;> rfl)
  ·
   replace a1 := ne_of_beq_false a1
   refine AOps.on rfl rfl ?_
   refine Y (Yields.fieldAddr_ptr fo29_0 rfl) rfl ?_
   refine AOps.on rfl rfl ?_
   refine Y (Yields.load_ptr_field (j := 0) kd3 rfl rfl rfl rfl rfl rfl rfl) rfl ?_
   refine AOps.on rfl rfl ?_
   refine AOps.callro (inRange_AF kd 0 15) rfl rfl rfl ?_
   refine AOps.on rfl rfl ?_
   refine Y (Yields.not rfl) rfl ?_
   refine Y (Yields.pick_false rfl rfl) rfl ?_
   refine Y (mv rfl) rfl ?_
   refine AOps.split 17 rfl (fun a2 => ?_) (fun a2 => ?_)
   ·
    skip
    have a2 : inR kd 0 15 = false := by simp [inR] at a2 ⊢; omega
    refine AOps.off' rfl rfl rfl rfl ?_
    refine AOps.off' rfl rfl rfl rfl ?_
    refine AOps.off' rfl rfl rfl rfl ?_
    refine Y (Yields.pick_true rfl rfl) rfl ?_
    refine AOps.nil ?_
    refine AWP.cond rfl (fun _ => ?_) (fun h => absurd h (by decide))
    refine AWP.seq ?_
    refine AWP.region ?_
    refine Y (ass rfl) rfl ?_
    refine AOps.nil ?_
    refine AWP.ret ⟨.inl rfl, ?_⟩
    exact RetIs.oneV rfl rfl (by (rw [validS, if_pos (.inr (.inl a2))]) <;> rfl)
   ·
    skip
    refine AOps.on rfl rfl ?_
    refine Y (Yields.load_ptr_agg (j := 0) kd29 rfl rfl rfl rfl) rfl ?_
    refine AOps.on rfl rfl ?_
    refine AOps.callro (validText_AF kd nm t ks hk1) rfl rfl rfl ?_
    refine AOps.on rfl rfl ?_
    refine Y (Yields.not rfl) rfl ?_
    refine Y (Yields.pick_false rfl rfl) rfl ?_
    refine AOps.nil ?_
    refine AWP.condT rfl (fun a3 => ?_) (fun a3 => ?_)
    ·
     skip
     refine AWP.seq ?_
     refine AWP.region ?_
     have a3 : textV kd t = false := by simpa using a3
     refine Y (ass rfl) rfl ?_
     refine AOps.nil ?_
     refine AWP.ret ⟨.inl rfl, ?_⟩
     exact RetIs.oneV rfl rfl (by (rw [validS, if_pos (.inr (.inr (.inl a3)))]) <;> rfl)
    ·
     skip
     refine AWP.skip ?_
     refine AWP.seq ?_
     refine AWP.region ?_
     refine Y (ass rfl) rfl ?_
     refine AOps.nil ?_
     refine AWP.midT [(1, int d), (2, .ptr (some b1) 0 0 4), (5, int (mostV kd))] [(some b1, ⟨4, [Tr.av (.mk kd nm t ks)]⟩)] ?_ ?_
     ·
      skip
      refine AWP.seq ?_
      refine AWP.region ?_
      refine Y (Yields.fieldAddr_ptr fo29_0 rfl) rfl ?_
      refine Y (Yields.load_ptr_field (j := 0) kd3 rfl rfl rfl rfl rfl rfl rfl) rfl ?_
      refine AOps.nil ?_
      refine AWP.block ?_
      refine AWP.seq ?_
      refine AWP.region ?_
      refine Y (bn rfl rfl BinR.eql rfl) rfl ?_
      refine Y (ass rfl) rfl ?_
      refine AOps.nil ?_
      refine AWP.condT rfl (fun k0 => ?_) (fun k0 => ?_)
      ·
       replace k0 := eq_of_beq k0
       refine AWP.region ?_
       refine Y (ass rfl) rfl ?_
       refine AOps.nil ?_
       exact Leads.rows 0 ⟨rfl, rfl, (by rw [mostV, if_pos k0]; rfl), trivial⟩
      ·
       replace k0 := ne_of_beq_false k0
       refine AWP.seq ?_
       refine AWP.region ?_
       refine Y (bn rfl rfl BinR.eql rfl) rfl ?_
       refine Y (ass rfl) rfl ?_
       refine AOps.nil ?_
       refine AWP.condT rfl (fun k1 => ?_) (fun k1 => ?_)
       ·
        replace k1 := eq_of_beq k1
        refine AWP.region ?_
        refine Y (ass rfl) rfl ?_
        refine AOps.nil ?_
        exact Leads.rows 0 ⟨rfl, rfl, (by rw [mostV, if_neg k0, if_pos k1]; rfl), trivial⟩
       ·
        replace k1 := ne_of_beq_false k1
        refine AWP.skip ?_
        exact Leads.rows 0 ⟨rfl, rfl, (by rw [mostV, if_neg k0, if_neg k1]; rfl), trivial⟩
     ·
      skip
      refine AWP.seq ?_
      refine AWP.region ?_
      refine Y (Yields.fieldAddr_ptr fo29_0 rfl) rfl ?_
      refine Y (Yields.load_ptr_field (j := 0) kd3 rfl rfl rfl rfl rfl rfl rfl) rfl ?_
      refine AOps.callro (kidsOf_AF kd) rfl rfl rfl ?_
      refine Y (mv rfl) rfl ?_
      refine Y (Yields.extract rfl rfl) rfl ?_
      refine Y (Yields.extract rfl rfl) rfl ?_
      refine Y (ass rfl) rfl ?_
      refine Y (ass rfl) rfl ?_
      refine AOps.nil ?_
      refine AWP.seq ?_
      refine AWP.seq ?_
      refine AWP.region ?_
      refine Y (Yields.fieldAddr_ptr fo29_1 rfl) rfl ?_
      refine Y (Yields.load_ptr_field (j := 0) kd3 rfl rfl rfl rfl rfl rfl rfl) rfl ?_
      refine Y (mv rfl) rfl ?_
      refine AOps.callro (inRange_AF nm 0 (mostV kd)) rfl rfl rfl ?_
      refine Y (Yields.not rfl) rfl ?_
      refine Y (mv rfl) rfl ?_
      refine AOps.split 39 rfl (fun a4 => ?_) (fun a4 => ?_)
      ·
       skip
       have a4 : inR nm 0 (mostV kd) = false := by simp [inR] at a4 ⊢; omega
       refine AOps.off' rfl rfl rfl rfl ?_
       refine AOps.off' rfl rfl rfl rfl ?_
       refine AOps.off' rfl rfl rfl rfl ?_
       refine AOps.off' rfl rfl rfl rfl ?_
       refine AOps.off' rfl rfl rfl rfl ?_
       refine AOps.off' rfl rfl rfl rfl ?_
       refine AOps.off' rfl rfl rfl rfl ?_
       refine Y (Yields.pick_true rfl rfl) rfl ?_
       refine AOps.nil ?_
       refine AWP.cond rfl (fun _ => ?_) (fun h => absurd h (by decide))
       refine AWP.seq ?_
       refine AWP.region ?_
       refine Y (ass rfl) rfl ?_
       refine AOps.nil ?_
       refine AWP.ret ⟨.inl rfl, ?_⟩
       exact RetIs.oneV rfl rfl (by (rw [validS, if_pos (.inr (.inr (.inr (.inl a4))))]) <;> rfl)
      ·
       skip
       refine AOps.on rfl rfl ?_
       refine Y (Yields.fieldAddr_ptr fo29_3 rfl) rfl ?_
       refine AOps.on rfl rfl ?_
       refine Y (Yields.load_ptr_field (j := 0) kd27 rfl rfl rfl rfl rfl rfl rfl) rfl ?_
       refine AOps.on rfl rfl ?_
       refine Y (Yields.len_ro sl27 rfl) rfl ?_
       refine AOps.on rfl rfl ?_
       refine Y (mv rfl) rfl ?_
       refine AOps.on rfl rfl ?_
       refine Y (mv rfl) rfl ?_
       refine AOps.on rfl rfl ?_
       refine AOps.callro (inRange_AF (Tr.avs ks).length (lowV kd) (highV kd)) rfl rfl rfl ?_
       refine AOps.on rfl rfl ?_
       refine Y (Yields.not rfl) rfl ?_
       refine Y (Yields.pick_false rfl rfl) rfl ?_
       refine AOps.nil ?_
       refine AWP.condT rfl (fun a5 => ?_) (fun a5 => ?_)
       ·
        skip
        refine AWP.seq ?_
        refine AWP.region ?_
        have a5 : inR ks.length (lowV kd) (highV kd) = false := by rw [← hlen]; simp [inR] at a5 ⊢; omega
        refine Y (ass rfl) rfl ?_
        refine AOps.nil ?_
        refine AWP.ret ⟨.inl rfl, ?_⟩
        exact RetIs.oneV rfl rfl (by (rw [validS, if_pos (.inr (.inr (.inr (.inr a5))))]) <;> rfl)
       ·
        skip
        have a5 : ¬ inR ks.length (lowV kd) (highV kd) = false := by rw [← hlen]; simpa [inR] using a5
        have a4 : ¬ inR nm 0 (mostV kd) = false := by simpa [inR] using a4
        have a2 : ¬ inR kd 0 15 = false := by simpa [inR] using a2
        have a3 : ¬ textV kd t = false := by simpa using a3
        have hV : validS (.mk kd nm t ks) d = validSs ks (d - 1) := by rw [validS, if_neg (by rintro (q | q | q | q | q); exact a1 q; exact a2 q; exact a3 q; exact a4 q; exact a5 q)]
        refine AWP.skip ?_
        refine AWP.seq ?_
        refine AWP.seq ?_
        refine AWP.region ?_
        refine Y (ass rfl) rfl ?_
        refine AOps.nil ?_
        refine AWP.block ?_
        refine AWP.loopV (α := Nat) (fun i : Nat => ⟨[(1, int d), (2, .ptr (some b1) 0 0 4), (8, int i)], [(some b1, ⟨4, [Tr.av (.mk kd nm t ks)]⟩)]⟩) (fun i : Nat => i ≤ ks.length ∧ validSs (ks.drop i) (d - 1) = validSs ks (d - 1)) (fun i : Nat => ks.length - i) (0) ?_ ?_ ?_
        · exact Leads.rows 0 ⟨rfl, rfl, rfl, trivial⟩
        ·
         show 0 ≤ ks.length ∧ validSs (ks.drop 0) (d - 1) = validSs ks (d - 1)
         exact ⟨Nat.zero_le _, rfl⟩
        ·
         rintro i hinv
         refine AWP.seq ?_
         refine AWP.seq ?_
         refine AWP.region ?_
         obtain ⟨hi, hp⟩ := hinv
         refine Y (mv rfl) rfl ?_
         refine Y (Yields.fieldAddr_ptr fo29_3 rfl) rfl ?_
         refine Y (Yields.load_ptr_field (j := 0) kd27 rfl rfl rfl rfl rfl rfl rfl) rfl ?_
         refine Y (Yields.len_ro sl27 rfl) rfl ?_
         refine Y (bn rfl rfl BinR.lss rfl) rfl ?_
         refine AOps.nil ?_
         refine AWP.condT rfl (fun g => ?_) (fun g => ?_)
         ·
          replace g := of_decide_eq_true g
          obtain ⟨k, hk, hd⟩ := drop_at (l := ks) (i := i) (by omega)
          rw [hd, validSs] at hp
          refine AWP.skip ?_
          refine AWP.seq ?_
          refine AWP.block ?_
          refine AWP.seq ?_
          refine AWP.region ?_
          refine Y (Yields.fieldAddr_ptr fo29_3 rfl) rfl ?_
          refine Y (Yields.load_ptr_field (j := 0) kd27 rfl rfl rfl rfl rfl rfl rfl) rfl ?_
          refine Y (mv rfl) rfl ?_
          refine Y (Yields.idx_roN sl27 rfl rfl rfl rfl (by omega)) rfl ?_
          refine Y (Yields.load_rop_aggV kd29 rfl (Tr.avs_at hk) (Tr.av_agg k)) rfl ?_
          refine Y (mv rfl) rfl ?_
          refine Y (bn rfl rfl (BinR.subI (by omega) (by omega)) rfl) rfl ?_
          refine AOps.callro (ih k (List.mem_of_getElem? hk) (d - 1) (Tr.bnds_get hk3 hk) (by omega) (by omega)) rfl rfl rfl ?_
          refine Y (Yields.not rfl) rfl ?_
          refine AOps.nil ?_
          refine AWP.condT rfl (fun g2 => ?_) (fun g2 => ?_)
          ·
           skip
           refine AWP.seq ?_
           refine AWP.region ?_
           have g2 : validS k (d - 1) = false := by simpa using g2
           refine Y (ass rfl) rfl ?_
           refine AOps.nil ?_
           refine AWP.ret ⟨.inl rfl, ?_⟩
           exact RetIs.oneV rfl rfl (by (rw [hV, ← hp, g2, Bool.false_and]) <;> rfl)
          ·
           skip
           have g2 : validS k (d - 1) = true := by simpa using g2
           refine AWP.skip ?_
           refine AWP.region ?_
           refine Y (mv rfl) rfl ?_
           refine Y (bn rfl rfl (BinR.addI (by omega) (by omega)) rfl) rfl ?_
           refine Y (ass rfl) rfl ?_
           refine AOps.nil ?_
           refine ⟨i + 1, ?_, ?_, ?_⟩
           ·
            show ks.length - (i + 1) < ks.length - i
            omega
           ·
            show (i + 1) ≤ ks.length ∧ validSs (ks.drop (i + 1)) (d - 1) = validSs ks (d - 1)
            exact ⟨by omega, by rw [← hp, g2, Bool.true_and]⟩
           · exact Leads.rows 0 ⟨rfl, rfl, rfl, trivial⟩
         ·
          replace g := of_decide_eq_false g
          rw [List.drop_eq_nil_of_le (by omega), validSs] at hp
          refine AWP.exit ?_
          refine AWP.seq ?_
          refine AWP.region ?_
          refine Y (ass rfl) rfl ?_
          refine AOps.nil ?_
          refine AWP.ret ⟨.inl rfl, ?_⟩
          exact RetIs.oneV rfl rfl (by (rw [hV, ← hp]) <;> rfl)
mutual
def sizeT : Tr → Int
  | .mk _ _ _ ks => 1 + sizeTs ks
def sizeTs : List Tr → Int
  | [] => 0
  | k :: ks => sizeT k + sizeTs ks
end
mutual
theorem sizeT_pos : ∀ k : Tr, 1 ≤ sizeT k
  | .mk _ _ _ ks => by rw [sizeT]; have := sizeTs_pos ks; omega
theorem sizeTs_pos : ∀ ks : List Tr, 0 ≤ sizeTs ks
  | [] => by rw [sizeTs]; omega
  | k :: ks => by rw [sizeTs]; have := sizeT_pos k; have := sizeTs_pos ks; omega
end
mutual
theorem sizeT_sz : ∀ (k : Tr) (left : Int), 0 ≤ left → 0 ≤ szV k left → sizeT k + szV k left ≤ left + 1
  | .mk k n t ks, left, h0, h => by
    rw [sizeT]
    rw [szV] at h ⊢
    split at h
    · omega
    · rename_i h1
      rw [if_neg h1]
      split at h
      · omega
      · rename_i h2
        rw [if_neg h2]
        have := sizeTs_sz ks _ (by omega) h
        omega
theorem sizeTs_sz : ∀ (ks : List Tr) (left : Int), 0 ≤ left → 0 ≤ szL ks left → sizeTs ks + szL ks left ≤ left + ks.length
  | [], left, h0, h => by rw [sizeTs, szL]; simp
  | k :: ks, left, h0, h => by
    rw [sizeTs]
    rw [szL] at h ⊢
    split at h
    · omega
    · rename_i h1
      rw [if_neg h1]
      have := sizeT_sz k left h0 (by omega)
      have := sizeTs_sz ks _ (by omega) h
      simp only [List.length_cons]
      omega
end
theorem sizeTs_drop {ks : List Tr} : ∀ i : Nat, 0 ≤ sizeTs (ks.drop i) := fun i => sizeTs_pos _
theorem ssize_AF (k : Tr) : k.bnd 1000000 → sizeT k ≤ 2000000 → Fn 42 [k.av] (int (sizeT k)) := by
  induction k using Tr.ind
  rename_i kd nm t ks ih
  intro hk hz
  simp only [Tr.bnd] at hk
  obtain ⟨hk1, hk2, hk3⟩ := hk
  have hlen := Tr.avs_length ks
  refine AF.intro Tryd.func42 nm42 rfl rfl rfl rfl fun w0 ok0 => ?_
  refine AWP.seq ?_
  refine AWP.region ?_
  refine AOps.box rfl rfl rfl rfl fun b1 => ?_
  refine Y (ass rfl) rfl ?_
  refine AOps.nil ?_
  refine AWP.seq ?_
  refine AWP.region ?_
  refine Y (ass rfl) rfl ?_
  refine AOps.nil ?_
  refine AWP.seq ?_
  refine AWP.seq ?_
  refine AWP.region ?_
  refine Y (ass rfl) rfl ?_
  refine AOps.nil ?_
  refine AWP.block ?_
  refine AWP.loopV (α := Nat × Int) (fun pp : Nat × Int => match pp with | (i, m) => ⟨[(1, .ptr (some b1) 0 0 4), (3, int m), (4, int i)], [(some b1, ⟨4, [Tr.av (.mk kd nm t ks)]⟩)]⟩) (fun pp : Nat × Int => match pp with | (i, m) => i ≤ ks.length ∧ 1 ≤ m ∧ m + sizeTs (ks.drop i) = sizeT (.mk kd nm t ks)) (fun pp : Nat × Int => match pp with | (i, m) => ks.length - i) ((0, 1)) ?_ ?_ ?_
  · exact Leads.rows 0 ⟨rfl, rfl, rfl, trivial⟩
  ·
   show 0 ≤ ks.length ∧ 1 ≤ 1 ∧ 1 + sizeTs (ks.drop 0) = sizeT (.mk kd nm t ks)
   exact ⟨Nat.zero_le _, by omega, rfl⟩
  ·
   rintro ⟨i, m⟩ hinv
   replace hinv : i ≤ ks.length ∧ 1 ≤ m ∧ m + sizeTs (ks.drop i) = sizeT (.mk kd nm t ks) := hinv
   show AWP _ _ _ _ ⟨[(1, .ptr (some b1) 0 0 4), (3, int m), (4, int i)], [(some b1, ⟨4, [Tr.av (.mk kd nm t ks)]⟩)]⟩
   refine AWP.seq ?_
   refine AWP.seq ?_
   refine AWP.region ?_
   obtain ⟨hi, hm, hp⟩ := hinv
   refine Y (mv rfl) rfl ?_
   refine Y (Yields.fieldAddr_ptr fo29_3 rfl) rfl ?_
   refine Y (Yields.load_ptr_field (j := 0) kd27 rfl rfl rfl rfl rfl rfl rfl) rfl ?_
   refine Y (Yields.len_ro sl27 rfl) rfl ?_
   refine Y (bn rfl rfl BinR.lss rfl) rfl ?_
   refine AOps.nil ?_
   refine AWP.condT rfl (fun g => ?_) (fun g => ?_)
   ·
    replace g := of_decide_eq_true g
    obtain ⟨k, hk, hd⟩ := drop_at (l := ks) (i := i) (by omega)
    rw [hd, sizeTs] at hp
    have hp1 := sizeT_pos k
    have hp2 := sizeTs_pos (ks.drop (i + 1))
    refine AWP.skip ?_
    refine AWP.seq ?_
    refine AWP.block ?_
    refine AWP.region ?_
    refine Y (mv rfl) rfl ?_
    refine Y (Yields.fieldAddr_ptr fo29_3 rfl) rfl ?_
    refine Y (Yields.load_ptr_field (j := 0) kd27 rfl rfl rfl rfl rfl rfl rfl) rfl ?_
    refine Y (mv rfl) rfl ?_
    refine Y (Yields.idx_roN sl27 rfl rfl rfl rfl (by omega)) rfl ?_
    refine Y (Yields.load_rop_aggV kd29 rfl (Tr.avs_at hk) (Tr.av_agg k)) rfl ?_
    refine AOps.callro (ih k (List.mem_of_getElem? hk) (Tr.bnds_get hk3 hk) (by omega)) rfl rfl rfl ?_
    refine Y (bn rfl rfl (BinR.addI (by omega) (by omega)) rfl) rfl ?_
    refine Y (ass rfl) rfl ?_
    refine AOps.nil ?_
    refine AWP.region ?_
    refine Y (mv rfl) rfl ?_
    refine Y (bn rfl rfl (BinR.addI (by omega) (by omega)) rfl) rfl ?_
    refine Y (ass rfl) rfl ?_
    refine AOps.nil ?_
    refine ⟨(i + 1, m + sizeT k), ?_, ?_, ?_⟩
    ·
     show ks.length - (i + 1) < ks.length - i
     omega
    ·
     show (i + 1) ≤ ks.length ∧ 1 ≤ (m + sizeT k) ∧ (m + sizeT k) + sizeTs (ks.drop (i + 1)) = sizeT (.mk kd nm t ks)
     exact ⟨by omega, by omega, by omega⟩
    · exact Leads.rows 0 ⟨rfl, rfl, rfl, trivial⟩
   ·
    replace g := of_decide_eq_false g
    rw [List.drop_eq_nil_of_le (by omega), sizeTs] at hp
    refine AWP.exit ?_
    refine AWP.seq ?_
    refine AWP.region ?_
    refine Y (mv rfl) rfl ?_
    refine Y (ass rfl) rfl ?_
    refine AOps.nil ?_
    refine AWP.ret ⟨.inl rfl, ?_⟩
    exact RetIs.oneV rfl rfl (by (rw [← hp, Int.add_zero]) <;> rfl)
end Go.Proofs.YtccdgppplkfjfaaDoor
