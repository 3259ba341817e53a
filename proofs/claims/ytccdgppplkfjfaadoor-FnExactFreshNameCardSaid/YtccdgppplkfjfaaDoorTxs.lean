/- Lists of texts: as they come from outside. -/
import Derived.Test.YtccdgppplkfjfaaDoorOwn
namespace Go.Proofs.YtccdgppplkfjfaaDoor
open Go Go.Ax Go.Proofs
set_option linter.unusedVariables false
set_option linter.unusedSimpArgs false
set_option maxRecDepth 20000
def fillS : ByteArray := ⟨#[126, 115, 112, 97, 114, 101, 126]⟩
def spareS (b : Bool) (n : Nat) : List ByteArray := if b && decide (n = 0) then [] else List.replicate (Tr.room n) fillS
theorem strs_appendT (l m : List ByteArray) : strs (l ++ m) = strs l ++ strs m := by simp [strs]
def ownTS (b : Bool) (l : List ByteArray) : AV → Hp → Prop := fun r hp' => ∃ B : Option Nat, r = .loc B 0 l.length (l.length + (spareS b l.length).length) 1 ∧ hp' = [(B, ⟨1, strs l ++ strs (spareS b l.length)⟩)]
theorem bor_strsR {hp : Hp} {B : Option Nat} {j : Nat} {l m : List ByteArray} (hj : hp[j]? = some (B, ⟨1, strs l ++ strs m⟩)) : Bor hp (.loc B 0 l.length (l.length + m.length) 1) (.ro 1 (strs l) (strs m) false) :=
  Bor.locR hj (by simp [strs]) (by simp [strs]) (by rw [List.take_left' (strs_length l)]; exact viewL_strs l) (by rw [List.drop_left' (strs_length l)]; exact viewL_strs m)
theorem ownTS.fz {b : Bool} {l : List ByteArray} {r : AV} {hp' : Hp} (h : ownTS b l r hp') : Fz hp' r (.ro 1 (strs l) (strs (spareS b l.length)) false) := by
  obtain ⟨B, rfl, rfl⟩ := h
  exact (bor_strsR (j := 0) rfl).fz
theorem setS_step {A : List ByteArray} {z v : ByteArray} {m i : Nat} (hA : A.length = i) (hm : 0 < m) : (strs (A ++ List.replicate m z)).set (0 + i) (str v) = strs ((A ++ [v]) ++ List.replicate (m - 1) z) := by
  subst hA
  cases m with
  | zero => omega
  | succ m => simp [strs, List.replicate_succ, List.set_append]
theorem getS_step {A : List ByteArray} {z : ByteArray} {m i : Nat} (hA : A.length = i) (hm : 0 < m) : (strs (A ++ List.replicate m z))[0 + i]? = some (str z) := by
  subst hA
  cases m with
  | zero => omega
  | succ m => simp [strs, List.replicate_succ]
theorem takeS_succ {l : List ByteArray} {i : Nat} {n : ByteArray} (h : l[i]? = some n) : l.take (i + 1) = l.take i ++ [n] := by rw [List.take_add_one, h]; rfl
theorem zerosS (n : Nat) : List.replicate n (avOf (.string ⟨#[]⟩)) = strs (List.replicate n ⟨#[]⟩) := by simp [strs, avOf]
theorem toStringS_nil : FnH 18 [] [.ro 1 (strs []) [] false, bool true] (ownTS true []) := by
  refine AH.intro Tryd.func18 nm18 rfl rfl rfl fun w0 ok0 own0 => ?_
  refine AWP.seq ?_
  refine AWP.region ?_
  refine Y (ass rfl) rfl ?_
  refine AOps.nil ?_
  refine AWP.seq ?_
  refine AWP.seq ?_
  refine AWP.region ?_
  refine Y (mv rfl) rfl ?_
  refine Y (mv rfl) rfl ?_
  refine AOps.on rfl rfl ?_
  refine Y (mv rfl) rfl ?_
  refine AOps.on rfl rfl ?_
  refine Y (Yields.len_ro sl44 rfl) rfl ?_
  refine AOps.on rfl rfl ?_
  refine Y (bn rfl rfl BinR.eql rfl) rfl ?_
  refine Y (Yields.pick_true rfl rfl) rfl ?_
  refine AOps.nil ?_
  refine AWP.condT rfl (fun h => ?_) (fun h => ?_)
  ·
   replace h := eq_of_beq h
   refine AWP.seq ?_
   refine AWP.region ?_
   refine Y (ass rfl) rfl ?_
   refine AOps.nil ?_
   refine AWP.leads (Leads.own0 4 1 rfl) ?_
   refine AWP.ret ⟨.inl rfl, ?_⟩
   exact RetH.of (rs := [.tmp 4]) (vs := [_]) rfl ⟨rfl, trivial⟩ (KeepR.cons 0 rfl KeepR.nil) (⟨none, rfl, rfl⟩)
  ·
   replace h := ne_of_beq_false h
   exact absurd rfl h
theorem toStringS_of (b : Bool) (l : List ByteArray) (hl : l.length ≤ 1000000) (hb : b = true → l.length ≠ 0) : FnH 18 [] [.ro 1 (strs l) [] false, bool b] (ownTS b l) := by
  have hlen := strs_length l
  have hrle := Tr.room_le l.length
  have hroom : Tr.room (strs l).length = Tr.room l.length := by rw [hlen]
  refine AH.intro Tryd.func18 nm18 rfl rfl rfl fun w0 ok0 own0 => ?_
  refine AWP.seq ?_
  refine AWP.region ?_
  refine Y (ass rfl) rfl ?_
  refine AOps.nil ?_
  refine AWP.midT [(0, .ro 1 (strs l) [] false), (1, bool b)] [] ?_ ?_
  · skip
    refine AWP.seq ?_
    refine AWP.region ?_
    refine Y (mv rfl) rfl ?_
    refine Y (mv rfl) rfl ?_
    refine AOps.split 9 rfl (fun h => ?_) (fun h => ?_)
    · skip
      refine AOps.on rfl rfl ?_
      refine Y (mv rfl) rfl ?_
      refine AOps.on rfl rfl ?_
      refine Y (Yields.len_ro sl44 rfl) rfl ?_
      refine AOps.on rfl rfl ?_
      refine Y (bn rfl rfl BinR.eql rfl) rfl ?_
      refine Y (Yields.pick_true rfl rfl) rfl ?_
      refine AOps.nil ?_
      refine AWP.condT rfl (fun h2 => ?_) (fun h2 => ?_)
      · replace h2 := eq_of_beq h2
        exact absurd h2 (by have := hb h; omega)
      · replace h2 := ne_of_beq_false h2
        refine AWP.skip ?_
        exact Leads.rows 0 ⟨rfl, rfl, trivial⟩
    · skip
      refine AOps.off' rfl rfl rfl rfl ?_
      refine AOps.off' rfl rfl rfl rfl ?_
      refine AOps.off' rfl rfl rfl rfl ?_
      refine Y (Yields.pick_false rfl rfl) rfl ?_
      refine AOps.nil ?_
      refine AWP.cond rfl (fun h => absurd h (by decide)) (fun _ => ?_)
      refine AWP.skip ?_
      exact Leads.rows 0 ⟨rfl, rfl, trivial⟩
  · skip
    refine AWP.seq ?_
    refine AWP.region ?_
    refine Y (mv rfl) rfl ?_
    refine Y (Yields.len_ro sl44 rfl) rfl ?_
    refine Y (mv rfl) rfl ?_
    refine Y (Yields.len_ro sl44 rfl) rfl ?_
    refine AOps.callro (roomBehind_AF (strs l).length) rfl rfl rfl ?_
    refine Y (bn rfl rfl (BinR.addI (by omega) (by omega)) rfl) rfl ?_
    refine AOps.makeSlice (N := l.length + Tr.room l.length) sl44 z9 rfl rfl rfl rfl rfl rfl (by omega) (by omega) (by omega) (by omega) fun b1 => ?_
    refine AOps.leads (Leads.rowEq 0 rfl (zerosS _)) ?_
    refine Y (ass rfl) rfl ?_
    refine AOps.nil ?_
    refine AWP.seq ?_
    refine AWP.seq ?_
    refine AWP.region ?_
    refine Y (ass rfl) rfl ?_
    refine AOps.nil ?_
    refine AWP.block ?_
    refine AWP.loopV (α := Nat × List AV) (fun pp : Nat × List AV => match pp with | (i, xs) => ⟨[(0, .ro 1 (strs l) [] false), (1, bool b), (5, .loc (some b1) 0 (l.length + Tr.room l.length) (l.length + Tr.room l.length) 1), (6, int i)], [(some b1, ⟨1, xs⟩)]⟩) (fun pp : Nat × List AV => match pp with | (i, xs) => i ≤ l.length ∧ xs = strs (l.take i ++ List.replicate (l.length + Tr.room l.length - i) ⟨#[]⟩)) (fun pp : Nat × List AV => match pp with | (i, xs) => l.length - i) ((0, strs (List.replicate (l.length + Tr.room l.length) ⟨#[]⟩))) ?_ ?_ ?_
    · exact Leads.rows 0 ⟨rfl, rfl, rfl, rfl, trivial⟩
    · show 0 ≤ l.length ∧ (strs (List.replicate (l.length + Tr.room l.length) ⟨#[]⟩)) = strs (l.take 0 ++ List.replicate (l.length + Tr.room l.length - 0) ⟨#[]⟩)
      exact ⟨Nat.zero_le _, by simp⟩
    · rintro ⟨i, xs⟩ hinv
      replace hinv : i ≤ l.length ∧ xs = strs (l.take i ++ List.replicate (l.length + Tr.room l.length - i) ⟨#[]⟩) := hinv
      show AWP _ _ _ _ ⟨[(0, .ro 1 (strs l) [] false), (1, bool b), (5, .loc (some b1) 0 (l.length + Tr.room l.length) (l.length + Tr.room l.length) 1), (6, int i)], [(some b1, ⟨1, xs⟩)]⟩
      refine AWP.seq ?_
      refine AWP.seq ?_
      refine AWP.region ?_
      obtain ⟨hi, rfl⟩ := hinv
      refine Y (mv rfl) rfl ?_
      refine Y (mv rfl) rfl ?_
      refine Y (Yields.len_ro sl44 rfl) rfl ?_
      refine Y (bn rfl rfl BinR.lss rfl) rfl ?_
      refine AOps.nil ?_
      refine AWP.condT rfl (fun g => ?_) (fun g => ?_)
      · replace g := of_decide_eq_true g
        obtain ⟨n, hn, _⟩ := drop_at (l := l) (i := i) (by omega)
        have hA : (l.take i).length = i := by rw [List.length_take]; omega
        refine AWP.skip ?_
        refine AWP.seq ?_
        refine AWP.block ?_
        refine AWP.region ?_
        refine Y (mv rfl) rfl ?_
        refine Y (mv rfl) rfl ?_
        refine Y (mv rfl) rfl ?_
        refine Y (mv rfl) rfl ?_
        refine Y (Yields.idx_roN sl44 rfl rfl rfl rfl (by omega)) rfl ?_
        refine Y (Yields.load_rop_one kd9 rfl (strs_at hn) rfl) rfl ?_
        refine Y (Yields.idx_locN sl44 rfl rfl rfl (by omega)) rfl ?_
        refine AOps.store (j := 0) kd9 rfl rfl (getS_step hA (by omega)) rfl rfl rfl ?_
        refine AOps.nil ?_
        refine AWP.region ?_
        refine Y (mv rfl) rfl ?_
        refine Y (bn rfl rfl (BinR.addI (by omega) (by omega)) rfl) rfl ?_
        refine Y (ass rfl) rfl ?_
        refine AOps.nil ?_
        refine ⟨(i + 1, (strs (l.take i ++ List.replicate (l.length + Tr.room l.length - i) ⟨#[]⟩)).set (0 + i) (str n)), ?_, ?_, ?_⟩
        · show l.length - (i + 1) < l.length - i
          omega
        · show (i + 1) ≤ l.length ∧ ((strs (l.take i ++ List.replicate (l.length + Tr.room l.length - i) ⟨#[]⟩)).set (0 + i) (str n)) = strs (l.take (i + 1) ++ List.replicate (l.length + Tr.room l.length - (i + 1)) ⟨#[]⟩)
          exact ⟨by omega, by rw [setS_step hA (by omega), ← takeS_succ hn, show l.length + Tr.room l.length - i - 1 = l.length + Tr.room l.length - (i + 1) by omega]⟩
        · exact Leads.rows 0 ⟨rfl, rfl, rfl, rfl, trivial⟩
      · replace g := of_decide_eq_false g
        have hi' : i = l.length := by omega
        subst hi'
        rw [List.take_length]
        refine AWP.exit ?_
        refine AWP.seq ?_
        refine AWP.seq ?_
        refine AWP.region ?_
        refine Y (mv rfl) rfl ?_
        refine Y (Yields.len_ro sl44 rfl) rfl ?_
        refine Y (ass rfl) rfl ?_
        refine AOps.nil ?_
        refine AWP.block ?_
        refine AWP.loopV (α := Nat × List AV) (fun pp : Nat × List AV => match pp with | (i, xs) => ⟨[(0, .ro 1 (strs l) [] false), (1, bool b), (5, .loc (some b1) 0 (l.length + Tr.room l.length) (l.length + Tr.room l.length) 1), (7, int i)], [(some b1, ⟨1, xs⟩)]⟩) (fun pp : Nat × List AV => match pp with | (i, xs) => i ≤ l.length + Tr.room l.length ∧ l.length ≤ i ∧ xs = strs ((l ++ List.replicate (i - l.length) fillS) ++ List.replicate (l.length + Tr.room l.length - i) ⟨#[]⟩)) (fun pp : Nat × List AV => match pp with | (i, xs) => l.length + Tr.room l.length - i) ((l.length, strs (l ++ List.replicate (l.length + Tr.room l.length - l.length) ⟨#[]⟩))) ?_ ?_ ?_
        · exact Leads.rows 0 ⟨rfl, rfl, rfl, (by show some (AV.val (Value.int .i64 _)) = some (AV.val (Value.int .i64 _)); rw [hlen]), trivial⟩
        · show l.length ≤ l.length + Tr.room l.length ∧ l.length ≤ l.length ∧ (strs (l ++ List.replicate (l.length + Tr.room l.length - l.length) ⟨#[]⟩)) = strs ((l ++ List.replicate (l.length - l.length) fillS) ++ List.replicate (l.length + Tr.room l.length - l.length) ⟨#[]⟩)
          exact ⟨by omega, Nat.le_refl _, by simp⟩
        · rintro ⟨i, xs⟩ hinv
          replace hinv : i ≤ l.length + Tr.room l.length ∧ l.length ≤ i ∧ xs = strs ((l ++ List.replicate (i - l.length) fillS) ++ List.replicate (l.length + Tr.room l.length - i) ⟨#[]⟩) := hinv
          show AWP _ _ _ _ ⟨[(0, .ro 1 (strs l) [] false), (1, bool b), (5, .loc (some b1) 0 (l.length + Tr.room l.length) (l.length + Tr.room l.length) 1), (7, int i)], [(some b1, ⟨1, xs⟩)]⟩
          refine AWP.seq ?_
          refine AWP.seq ?_
          refine AWP.region ?_
          obtain ⟨hi, hi1, rfl⟩ := hinv
          refine Y (mv rfl) rfl ?_
          refine Y (mv rfl) rfl ?_
          refine Y (Yields.len_loc sl44 rfl) rfl ?_
          refine Y (bn rfl rfl BinR.lss rfl) rfl ?_
          refine AOps.nil ?_
          refine AWP.condT rfl (fun g2 => ?_) (fun g2 => ?_)
          · replace g2 := of_decide_eq_true g2
            have hA : (l ++ List.replicate (i - l.length) fillS).length = i := by rw [List.length_append, List.length_replicate]; omega
            refine AWP.skip ?_
            refine AWP.seq ?_
            refine AWP.block ?_
            refine AWP.region ?_
            refine Y (mv rfl) rfl ?_
            refine Y (mv rfl) rfl ?_
            refine Y (Yields.idx_locN sl44 rfl rfl rfl (by omega)) rfl ?_
            refine AOps.store (j := 0) kd9 rfl rfl (getS_step hA (by omega)) rfl rfl rfl ?_
            refine AOps.nil ?_
            refine AWP.region ?_
            refine Y (mv rfl) rfl ?_
            refine Y (bn rfl rfl (BinR.addI (by omega) (by omega)) rfl) rfl ?_
            refine Y (ass rfl) rfl ?_
            refine AOps.nil ?_
            refine ⟨(i + 1, (strs ((l ++ List.replicate (i - l.length) fillS) ++ List.replicate (l.length + Tr.room l.length - i) ⟨#[]⟩)).set (0 + i) (str fillS)), ?_, ?_, ?_⟩
            · show l.length + Tr.room l.length - (i + 1) < l.length + Tr.room l.length - i
              omega
            · show (i + 1) ≤ l.length + Tr.room l.length ∧ l.length ≤ (i + 1) ∧ ((strs ((l ++ List.replicate (i - l.length) fillS) ++ List.replicate (l.length + Tr.room l.length - i) ⟨#[]⟩)).set (0 + i) (str fillS)) = strs ((l ++ List.replicate ((i + 1) - l.length) fillS) ++ List.replicate (l.length + Tr.room l.length - (i + 1)) ⟨#[]⟩)
              refine ⟨by omega, by omega, ?_⟩
              rw [setS_step hA (by omega), List.append_assoc l, ← List.replicate_succ', show i - l.length + 1 = i + 1 - l.length by omega, show l.length + Tr.room l.length - i - 1 = l.length + Tr.room l.length - (i + 1) by omega]
            · exact Leads.rows 0 ⟨rfl, rfl, rfl, rfl, trivial⟩
          · replace g2 := of_decide_eq_false g2
            have hi' : i = l.length + Tr.room l.length := by omega
            subst hi'
            have hsp : spareS b l.length = List.replicate (Tr.room l.length) fillS := by
               unfold spareS
               cases b with
               | false => rfl
               | true => rw [if_neg (by simpa using hb rfl)]
            refine AWP.exit ?_
            refine AWP.seq ?_
            refine AWP.region ?_
            refine Y (mv rfl) rfl ?_
            refine Y (mv rfl) rfl ?_
            refine Y (Yields.len_ro sl44 rfl) rfl ?_
            refine Y (Yields.slice_loc sl44 rfl (u := l.length) ⟨.i64, by show some (AV.val (Value.int .i64 _)) = _; rw [hlen]⟩ (by omega)) rfl ?_
            refine Y (ass rfl) rfl ?_
            refine AOps.nil ?_
            refine AWP.ret ⟨.inl rfl, ?_⟩
            exact RetH.of (rs := [.tmp 4]) (vs := [_]) rfl ⟨rfl, trivial⟩ (KeepR.cons 0 rfl KeepR.nil) (⟨some b1, by rw [hsp, List.length_replicate]; rfl, by rw [hsp, ← strs_appendT, Nat.sub_self, Nat.add_sub_cancel_left, List.replicate_zero, List.append_nil]⟩)
theorem toStringS_AH (b : Bool) (l : List ByteArray) (hl : l.length ≤ 1000000) : FnH 18 [] [.ro 1 (strs l) [] false, bool b] (ownTS b l) := by
  by_cases hb : b = true ∧ l.length = 0
  · obtain ⟨rfl, h0⟩ := hb
    have : l = [] := List.length_eq_zero_iff.1 h0
    subst this
    exact toStringS_nil
  · exact toStringS_of b l hl (fun e h0 => hb ⟨e, h0⟩)
theorem toStringS_AF (b : Bool) (l : List ByteArray) (hl : l.length ≤ 1000000) : Fn 18 [.ro 1 (strs l) [] false, bool b] (.ro 1 (strs l) (strs (spareS b l.length)) false) :=
  AH.toF rfl (toStringS_AH b l hl) (fun r hp' h => ownTS.fz h)
theorem wkS (l : List ByteArray) (sp : List AV) : Wk (.ro 1 (strs l) sp false) (.ro 1 (strs l) [] false) := Wk.ro (WkL.refl _)
theorem intactStringS_AF (l : List ByteArray) (hl : l.length ≤ 1000000) : Fn 20 [.ro 1 (strs l) (strs (spareS false l.length)) false, .ro 1 (strs l) (strs (spareS false l.length)) false] (bool true) := by
  have hlen := strs_length l
  have hsp : (strs (spareS false l.length)).length = Tr.room l.length := by simp [strs, spareS]
  have hrle := Tr.room_le l.length
  have hroom : Tr.room (strs l).length = Tr.room l.length := by rw [hlen]
  have hall : ((strs l ++ strs (spareS false l.length)).drop 0).take (l.length + Tr.room l.length - 0) = strs (l ++ spareS false l.length) := by
    rw [List.drop_zero, strs_appendT, List.take_of_length_le (by simp [hlen, hsp])]
  refine AF.intro Tryd.func20 nm20 rfl rfl rfl rfl fun w0 ok0 => ?_
  refine AWP.seq ?_
  refine AWP.region ?_
  refine Y (ass rfl) rfl ?_
  refine AOps.nil ?_
  refine AWP.seq ?_
  refine AWP.region ?_
  refine Y (mv rfl) rfl ?_
  refine Y (Yields.len_ro sl44 rfl) rfl ?_
  refine Y (mv rfl) rfl ?_
  refine Y (Yields.len_ro sl44 rfl) rfl ?_
  refine AOps.callro (roomBehind_AF (strs l).length) rfl rfl rfl ?_
  refine Y (bn rfl rfl (BinR.addI (by omega) (by omega)) rfl) rfl ?_
  refine Y (ass rfl) rfl ?_
  refine AOps.nil ?_
  refine AWP.seq ?_
  refine AWP.prune (tm' := [(0, _), (1, _), (4, _), (5, _)]) ⟨rfl, rfl, rfl, rfl, trivial⟩ ?_
  refine AWP.drawn mixed rfl rfl ?_
  refine D (tm' := [(0, _)]) ⟨rfl, trivial⟩ (DStep.yields (mv rfl)) rfl ?_
  refine D (tm' := [(12, _)]) ⟨rfl, trivial⟩ (DStep.yields (Yields.len_ro sl44 rfl)) rfl ?_
  refine D (tm' := [(1, _)]) ⟨rfl, trivial⟩ (DStep.yields (mv rfl)) rfl ?_
  refine D (tm' := [(14, _)]) ⟨rfl, trivial⟩ (DStep.yields (Yields.len_ro sl44 rfl)) rfl ?_
  refine D (tm' := [(13, _), (15, _)]) ⟨rfl, rfl, trivial⟩ (DStep.yields (bn rfl rfl BinR.eql rfl)) rfl ?_
  refine D (tm' := [(16, _)]) ⟨rfl, trivial⟩ (DStep.yields (mv rfl)) rfl ?_
  refine DOps.split 5 rfl (fun h => ?_) (fun h => ?_)
  ·
   replace h := eq_of_beq h
   refine DOps.on rfl rfl ?_
   refine D (tm' := [(0, _)]) ⟨rfl, trivial⟩ (DStep.yields (mv rfl)) rfl ?_
   refine DOps.on rfl rfl ?_
   refine D (tm' := [(5, _)]) ⟨rfl, trivial⟩ (DStep.yields (mv rfl)) rfl ?_
   refine DOps.on rfl rfl ?_
   refine D (tm' := [(18, _), (19, _)]) ⟨rfl, rfl, trivial⟩ (DStep.yields (Yields.slice_ro sl44 rfl (l := 0) (u := l.length + Tr.room l.length) rfl ⟨.i64, by show some (AV.val (Value.int .i64 _)) = _; congr 3; omega⟩ (by omega) (by omega))) rfl ?_
   refine DOps.on rfl rfl ?_
   refine D (tm' := [(1, _)]) ⟨rfl, trivial⟩ (DStep.yields (mv rfl)) rfl ?_
   refine DOps.on rfl rfl ?_
   refine D (tm' := [(5, _)]) ⟨rfl, trivial⟩ (DStep.yields (mv rfl)) rfl ?_
   refine DOps.on rfl rfl ?_
   refine D (tm' := [(21, _), (22, _)]) ⟨rfl, rfl, trivial⟩ (DStep.yields (Yields.slice_ro sl44 rfl (l := 0) (u := l.length + Tr.room l.length) rfl ⟨.i64, by show some (AV.val (Value.int .i64 _)) = _; congr 3; omega⟩ (by omega) (by omega))) rfl ?_
   refine DOps.on rfl rfl ?_
   refine D (tm' := [(20, _), (23, _)]) ⟨rfl, rfl, trivial⟩ (DStep.callw (eqStringS_AF (l ++ spareS false l.length) (l ++ spareS false l.length) ((strs l ++ strs (spareS false l.length)).drop (l.length + Tr.room l.length)) ((strs l ++ strs (spareS false l.length)).drop (l.length + Tr.room l.length)) false false (by rw [List.length_append]; simp [spareS]; omega)) rfl ⟨hall ▸ Wk.refl _, hall ▸ Wk.refl _, trivial⟩ rfl) rfl ?_
   refine D (tm' := [(17, _), (24, _)]) ⟨rfl, rfl, trivial⟩ (DStep.yields (Yields.pick_true rfl rfl)) rfl ?_
   refine D (tm' := [(25, _)]) ⟨rfl, trivial⟩ (DStep.yields (ass rfl)) rfl ?_
   refine DOps.nil ?_
   refine AWP.ret ⟨.inl rfl, ?_⟩
   exact RetIs.oneV rfl rfl (by (simp) <;> rfl)
  ·
   replace h := ne_of_beq_false h
   exact absurd rfl h
def szSt : List ByteArray → Int → Int
  | [], s => s
  | x :: l, s => if s - x.size < 0 then -1 else szSt l (s - x.size)
def szTx (l : List ByteArray) (s : Int) : Int := if s - l.length < 0 then -1 else szSt l (s - l.length)
theorem szTx_ge {l : List ByteArray} {s : Int} (h : 0 ≤ szTx l s) : (l.length : Int) ≤ s := by
  unfold szTx at h
  split at h <;> omega
theorem szStringS_AF (l : List ByteArray) (hl : l.length ≤ 140737488355328) (hs : ∀ x ∈ l, x.size ≤ 9223372036854775807) (s : Int) (h1 : s ≤ 1000000) (h2 : -140737488355328 ≤ s) : Fn 16 [.ro 1 (strs l) [] false, int s] (int (szTx l s)) := by
  have hlen := strs_length l
  refine AF.intro Tryd.func16 nm16 rfl rfl rfl rfl fun w0 ok0 => ?_
  refine AWP.seq ?_
  refine AWP.region ?_
  refine Y (ass rfl) rfl ?_
  refine AOps.nil ?_
  refine AWP.seq ?_
  refine AWP.region ?_
  refine Y (mv rfl) rfl ?_
  refine Y (mv rfl) rfl ?_
  refine Y (Yields.len_ro sl44 rfl) rfl ?_
  refine Y (bn rfl rfl (BinR.subI (by omega) (by omega)) rfl) rfl ?_
  refine Y (ass rfl) rfl ?_
  refine AOps.nil ?_
  refine AWP.seq ?_
  refine AWP.seq ?_
  refine AWP.region ?_
  refine Y (mv rfl) rfl ?_
  refine Y (bn rfl rfl BinR.lss rfl) rfl ?_
  refine AOps.nil ?_
  refine AWP.condT rfl (fun g => ?_) (fun g => ?_)
  ·
   replace g := of_decide_eq_true g
   refine AWP.seq ?_
   refine AWP.region ?_
   refine Y (ass rfl) rfl ?_
   refine AOps.nil ?_
   refine AWP.ret ⟨.inl rfl, ?_⟩
   exact RetIs.oneV rfl rfl (by (rw [szTx, if_pos (by omega)]) <;> rfl)
  ·
   replace g := of_decide_eq_false g
   have hz : szTx l s = szSt l (s - l.length) := by rw [szTx, if_neg (by omega)]
   refine AWP.skip ?_
   refine AWP.seq ?_
   refine AWP.seq ?_
   refine AWP.region ?_
   refine Y (ass rfl) rfl ?_
   refine AOps.nil ?_
   refine AWP.block ?_
   refine AWP.loopV (α := Nat × Int) (fun pp : Nat × Int => match pp with | (i, u) => ⟨[(0, .ro 1 (strs l) [] false), (1, int u), (5, int i)], []⟩) (fun pp : Nat × Int => match pp with | (i, u) => i ≤ l.length ∧ 0 ≤ u ∧ u ≤ 1000000 ∧ szSt (l.drop i) u = szTx l s) (fun pp : Nat × Int => match pp with | (i, u) => l.length - i) ((0, s - l.length)) ?_ ?_ ?_
   · exact Leads.rows 0 ⟨rfl, (by show some (AV.val (Value.int .i64 _)) = some (AV.val (Value.int .i64 _)); rw [hlen]), rfl, trivial⟩
   ·
    show 0 ≤ l.length ∧ 0 ≤ (s - l.length) ∧ (s - l.length) ≤ 1000000 ∧ szSt (l.drop 0) (s - l.length) = szTx l s
    exact ⟨Nat.zero_le _, by omega, by omega, by rw [hz]; rfl⟩
   ·
    rintro ⟨i, u⟩ hinv
    replace hinv : i ≤ l.length ∧ 0 ≤ u ∧ u ≤ 1000000 ∧ szSt (l.drop i) u = szTx l s := hinv
    show AWP _ _ _ _ ⟨[(0, .ro 1 (strs l) [] false), (1, int u), (5, int i)], []⟩
    refine AWP.seq ?_
    refine AWP.seq ?_
    refine AWP.region ?_
    obtain ⟨hi, hu0, hu1, hp⟩ := hinv
    refine Y (mv rfl) rfl ?_
    refine Y (mv rfl) rfl ?_
    refine Y (Yields.len_ro sl44 rfl) rfl ?_
    refine Y (bn rfl rfl BinR.lss rfl) rfl ?_
    refine AOps.nil ?_
    refine AWP.condT rfl (fun g2 => ?_) (fun g2 => ?_)
    ·
     replace g2 := of_decide_eq_true g2
     obtain ⟨x, hx, hd⟩ := drop_at (l := l) (i := i) (by omega)
     have hxs := hs x (List.mem_of_getElem? hx)
     rw [hd, szSt] at hp
     refine AWP.skip ?_
     refine AWP.seq ?_
     refine AWP.block ?_
     refine AWP.seq ?_
     refine AWP.region ?_
     refine Y (mv rfl) rfl ?_
     refine Y (mv rfl) rfl ?_
     refine Y (mv rfl) rfl ?_
     refine Y (Yields.idx_roN sl44 rfl rfl rfl rfl (by omega)) rfl ?_
     refine Y (Yields.load_rop_one kd9 rfl (strs_at hx) rfl) rfl ?_
     refine Y (Yields.len_str Tryd.underlying9 rfl) rfl ?_
     refine Y (bn rfl rfl (BinR.subI (by omega) (by omega)) rfl) rfl ?_
     refine Y (ass rfl) rfl ?_
     refine AOps.nil ?_
     refine AWP.seq ?_
     refine AWP.region ?_
     refine Y (mv rfl) rfl ?_
     refine Y (bn rfl rfl BinR.lss rfl) rfl ?_
     refine AOps.nil ?_
     refine AWP.condT rfl (fun g3 => ?_) (fun g3 => ?_)
     ·
      replace g3 := of_decide_eq_true g3
      refine AWP.seq ?_
      refine AWP.region ?_
      rw [if_pos (by omega)] at hp
      refine Y (ass rfl) rfl ?_
      refine AOps.nil ?_
      refine AWP.ret ⟨.inl rfl, ?_⟩
      exact RetIs.oneV rfl rfl (by (rw [← hp]) <;> rfl)
     ·
      replace g3 := of_decide_eq_false g3
      rw [if_neg (by omega)] at hp
      refine AWP.skip ?_
      refine AWP.region ?_
      refine Y (mv rfl) rfl ?_
      refine Y (bn rfl rfl (BinR.addI (by omega) (by omega)) rfl) rfl ?_
      refine Y (ass rfl) rfl ?_
      refine AOps.nil ?_
      refine ⟨(i + 1, u - x.size), ?_, ?_, ?_⟩
      ·
       show l.length - (i + 1) < l.length - i
       omega
      ·
       show (i + 1) ≤ l.length ∧ 0 ≤ (u - x.size) ∧ (u - x.size) ≤ 1000000 ∧ szSt (l.drop (i + 1)) (u - x.size) = szTx l s
       exact ⟨by omega, by omega, by omega, hp⟩
      · exact Leads.rows 0 ⟨rfl, rfl, rfl, trivial⟩
    ·
     replace g2 := of_decide_eq_false g2
     rw [List.drop_eq_nil_of_le (by omega), szSt] at hp
     refine AWP.exit ?_
     refine AWP.seq ?_
     refine AWP.region ?_
     refine Y (mv rfl) rfl ?_
     refine Y (ass rfl) rfl ?_
     refine AOps.nil ?_
     refine AWP.ret ⟨.inl rfl, ?_⟩
     exact RetIs.oneV rfl rfl (by (rw [← hp]) <;> rfl)
end Go.Proofs.YtccdgppplkfjfaaDoor
