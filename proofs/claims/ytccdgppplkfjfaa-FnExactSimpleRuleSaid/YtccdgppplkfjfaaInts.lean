/- Lists of numbers: as they come from outside; marks. -/
import Derived.Test.YtccdgppplkfjfaaOwn
namespace Go.Proofs.Ytccdgppplkfjfaa
open Go Go.Ax Go.Proofs
set_option linter.unusedVariables false
set_option linter.unusedSimpArgs false
set_option maxRecDepth 20000
def ints (l : List Int) : List AV := l.map fun n => .val (.int .i64 n)
theorem ints_length (l : List Int) : (ints l).length = l.length := by simp [ints]
theorem ints_at {l : List Int} {i : Nat} {n : Int} (h : l[i]? = some n) : (ints l)[i]? = some (int n) := by simp [ints, h]
theorem plain_ints : ∀ l : List Int, plainL (ints l) = true
  | [] => rfl
  | n :: l => by simp only [ints, List.map_cons, plainL, plainV, Bool.true_and]; exact plain_ints l
theorem viewL_ints (l : List Int) : ViewL (ints l) (ints l) := viewL_refl (plain_ints l)
theorem freeL_ints : ∀ l : List Int, FreeL (ints l)
  | [] => trivial
  | n :: l => ⟨Free.val, freeL_ints l⟩
theorem ints_append (l m : List Int) : ints (l ++ m) = ints l ++ ints m := by simp [ints]
theorem ints_app (l : List Int) (n : Int) : ints l ++ [int n] = ints (l ++ [n]) := by simp [ints]
def fillI : Int := -7000000000000000101
def spareI (b : Bool) (n : Nat) : List Int := if b && decide (n = 0) then [] else List.replicate (Tr.room n) fillI
def ownI (b : Bool) (l : List Int) : AV → Hp → Prop := fun r hp' => ∃ B : Option Nat, r = .loc B 0 l.length (l.length + (spareI b l.length).length) 1 ∧ hp' = [(B, ⟨1, ints l ++ ints (spareI b l.length)⟩)]
theorem bor_ints {hp : Hp} {B : Option Nat} {j : Nat} {l m : List Int} (hj : hp[j]? = some (B, ⟨1, ints l ++ ints m⟩)) {len k : Nat} (hl : len = l.length) : Bor hp (.loc B 0 len k 1) (.ro 1 (ints l) [] false) := by
  subst hl
  exact Bor.loc hj (by simp [ints]) (by rw [List.take_left' (ints_length l)]; exact viewL_ints l)
theorem bor_intsR {hp : Hp} {B : Option Nat} {j : Nat} {l m : List Int} (hj : hp[j]? = some (B, ⟨1, ints l ++ ints m⟩)) : Bor hp (.loc B 0 l.length (l.length + m.length) 1) (.ro 1 (ints l) (ints m) false) :=
  Bor.locR hj (by simp [ints]) (by simp [ints]) (by rw [List.take_left' (ints_length l)]; exact viewL_ints l) (by rw [List.drop_left' (ints_length l)]; exact viewL_ints m)
theorem ownI.fz {b : Bool} {l : List Int} {r : AV} {hp' : Hp} (h : ownI b l r hp') : Fz hp' r (.ro 1 (ints l) (ints (spareI b l.length)) false) := by
  obtain ⟨B, rfl, rfl⟩ := h
  exact (bor_intsR (j := 0) rfl).fz
theorem ints_set {l : List Int} {i : Nat} {n : Int} {r : List AV} (h : i < l.length) : (ints l ++ r).set i (int n) = ints (l.set i n) ++ r := by
  rw [List.set_append_left _ _ (by rw [ints_length]; exact h)]
  congr 1
  simp [ints, List.map_set]
theorem setI_step {A : List Int} {z v : Int} {m i : Nat} (hA : A.length = i) (hm : 0 < m) : (ints (A ++ List.replicate m z)).set (0 + i) (int v) = ints ((A ++ [v]) ++ List.replicate (m - 1) z) := by
  subst hA
  cases m with
  | zero => omega
  | succ m => simp [ints, List.replicate_succ, List.set_append]
theorem getI_step {A : List Int} {z : Int} {m i : Nat} (hA : A.length = i) (hm : 0 < m) : (ints (A ++ List.replicate m z))[0 + i]? = some (int z) := by
  subst hA
  cases m with
  | zero => omega
  | succ m => simp [ints, List.replicate_succ]
theorem takeI_succ {l : List Int} {i : Nat} {n : Int} (h : l[i]? = some n) : l.take (i + 1) = l.take i ++ [n] := by rw [List.take_add_one, h]; rfl
theorem zerosI (n : Nat) : List.replicate n (avOf (.int .i64 0)) = ints (List.replicate n 0) := by simp [ints, avOf]

theorem toIntS_nil : FnH 26 [] [.ro 1 (ints []) [] false, bool true] (ownI true []) := by
  refine AH.intro Try.func26 nm26 rfl rfl rfl fun w0 ok0 own0 => ?_
  refine AWP.seq ?_
  refine AWP.region ?_
  refine Y (ass rfl) rfl ?_
  refine AOps.nil ?_
  refine AWP.seq ?_
  refine AWP.seq ?_
  refine AWP.region ?_
  refine Y (mv rfl) rfl ?_
  refine Y (mv rfl) rfl ?_
  refine AOps.on rfl rfl ?_
  refine Y (mv rfl) rfl ?_
  refine AOps.on rfl rfl ?_
  refine Y (Yields.len_ro sl41 rfl) rfl ?_
  refine AOps.on rfl rfl ?_
  refine Y (bn rfl rfl BinR.eql rfl) rfl ?_
  refine Y (Yields.pick_true rfl rfl) rfl ?_
  refine AOps.nil ?_
  refine AWP.condT rfl (fun h => ?_) (fun h => ?_)
  ·
   replace h := eq_of_beq h
   refine AWP.seq ?_
   refine AWP.region ?_
   refine Y (ass rfl) rfl ?_
   refine AOps.nil ?_
   refine AWP.leads (Leads.own0 4 1 rfl) ?_
   refine AWP.ret ⟨.inl rfl, ?_⟩
   exact RetH.of (rs := [.tmp 4]) (vs := [_]) rfl ⟨rfl, trivial⟩ (KeepR.cons 0 rfl KeepR.nil) (⟨none, rfl, rfl⟩)
  ·
   replace h := ne_of_beq_false h
   exact absurd rfl h
theorem toIntS_of (b : Bool) (l : List Int) (hl : l.length ≤ 1000000) (hb : b = true → l.length ≠ 0) : FnH 26 [] [.ro 1 (ints l) [] false, bool b] (ownI b l) := by
  have hlen := ints_length l
  have hrle := Tr.room_le l.length
  have hroom : Tr.room (ints l).length = Tr.room l.length := by rw [hlen]
  refine AH.intro Try.func26 nm26 rfl rfl rfl fun w0 ok0 own0 => ?_
  refine AWP.seq ?_
  refine AWP.region ?_
  refine Y (ass rfl) rfl ?_
  refine AOps.nil ?_
  refine AWP.midT [(0, .ro 1 (ints l) [] false), (1, bool b)] [] ?_ ?_
  · skip
    refine AWP.seq ?_
    refine AWP.region ?_
    refine Y (mv rfl) rfl ?_
    refine Y (mv rfl) rfl ?_
    refine AOps.split 9 rfl (fun h => ?_) (fun h => ?_)
    · skip
      refine AOps.on rfl rfl ?_
      refine Y (mv rfl) rfl ?_
      refine AOps.on rfl rfl ?_
      refine Y (Yields.len_ro sl41 rfl) rfl ?_
      refine AOps.on rfl rfl ?_
      refine Y (bn rfl rfl BinR.eql rfl) rfl ?_
      refine Y (Yields.pick_true rfl rfl) rfl ?_
      refine AOps.nil ?_
      refine AWP.condT rfl (fun h2 => ?_) (fun h2 => ?_)
      · replace h2 := eq_of_beq h2
        exact absurd h2 (by have := hb h; omega)
      · replace h2 := ne_of_beq_false h2
        refine AWP.skip ?_
        exact Leads.rows 0 ⟨rfl, rfl, trivial⟩
    · skip
      refine AOps.off' rfl rfl rfl rfl ?_
      refine AOps.off' rfl rfl rfl rfl ?_
      refine AOps.off' rfl rfl rfl rfl ?_
      refine Y (Yields.pick_false rfl rfl) rfl ?_
      refine AOps.nil ?_
      refine AWP.cond rfl (fun h => absurd h (by decide)) (fun _ => ?_)
      refine AWP.skip ?_
      exact Leads.rows 0 ⟨rfl, rfl, trivial⟩
  · skip
    refine AWP.seq ?_
    refine AWP.region ?_
    refine Y (mv rfl) rfl ?_
    refine Y (Yields.len_ro sl41 rfl) rfl ?_
    refine Y (mv rfl) rfl ?_
    refine Y (Yields.len_ro sl41 rfl) rfl ?_
    refine AOps.callro (roomBehind_AF (ints l).length) rfl rfl rfl ?_
    refine Y (bn rfl rfl (BinR.addI (by omega) (by omega)) rfl) rfl ?_
    refine AOps.makeSlice (N := l.length + Tr.room l.length) sl41 z3 rfl rfl rfl rfl rfl rfl (by omega) (by omega) (by omega) (by omega) fun b1 => ?_
    refine AOps.leads (Leads.rowEq 0 rfl (zerosI _)) ?_
    refine Y (ass rfl) rfl ?_
    refine AOps.nil ?_
    refine AWP.seq ?_
    refine AWP.seq ?_
    refine AWP.region ?_
    refine Y (ass rfl) rfl ?_
    refine AOps.nil ?_
    refine AWP.block ?_
    refine AWP.loopV (α := Nat × List AV) (fun pp : Nat × List AV => match pp with | (i, xs) => ⟨[(0, .ro 1 (ints l) [] false), (1, bool b), (5, .loc (some b1) 0 (l.length + Tr.room l.length) (l.length + Tr.room l.length) 1), (6, int i)], [(some b1, ⟨1, xs⟩)]⟩) (fun pp : Nat × List AV => match pp with | (i, xs) => i ≤ l.length ∧ xs = ints (l.take i ++ List.replicate (l.length + Tr.room l.length - i) 0)) (fun pp : Nat × List AV => match pp with | (i, xs) => l.length - i) ((0, ints (List.replicate (l.length + Tr.room l.length) 0))) ?_ ?_ ?_
    · exact Leads.rows 0 ⟨rfl, rfl, rfl, rfl, trivial⟩
    · show 0 ≤ l.length ∧ (ints (List.replicate (l.length + Tr.room l.length) 0)) = ints (l.take 0 ++ List.replicate (l.length + Tr.room l.length - 0) 0)
      exact ⟨Nat.zero_le _, by simp⟩
    · rintro ⟨i, xs⟩ hinv
      replace hinv : i ≤ l.length ∧ xs = ints (l.take i ++ List.replicate (l.length + Tr.room l.length - i) 0) := hinv
      show AWP _ _ _ _ ⟨[(0, .ro 1 (ints l) [] false), (1, bool b), (5, .loc (some b1) 0 (l.length + Tr.room l.length) (l.length + Tr.room l.length) 1), (6, int i)], [(some b1, ⟨1, xs⟩)]⟩
      refine AWP.seq ?_
      refine AWP.seq ?_
      refine AWP.region ?_
      obtain ⟨hi, rfl⟩ := hinv
      refine Y (mv rfl) rfl ?_
      refine Y (mv rfl) rfl ?_
      refine Y (Yields.len_ro sl41 rfl) rfl ?_
      refine Y (bn rfl rfl BinR.lss rfl) rfl ?_
      refine AOps.nil ?_
      refine AWP.condT rfl (fun g => ?_) (fun g => ?_)
      · replace g := of_decide_eq_true g
        obtain ⟨n, hn, _⟩ := drop_at (l := l) (i := i) (by omega)
        have hA : (l.take i).length = i := by rw [List.length_take]; omega
        refine AWP.skip ?_
        refine AWP.seq ?_
        refine AWP.block ?_
        refine AWP.region ?_
        refine Y (mv rfl) rfl ?_
        refine Y (mv rfl) rfl ?_
        refine Y (mv rfl) rfl ?_
        refine Y (mv rfl) rfl ?_
        refine Y (Yields.idx_roN sl41 rfl rfl rfl rfl (by omega)) rfl ?_
        refine Y (Yields.load_rop_one kd3 rfl (ints_at hn) rfl) rfl ?_
        refine Y (Yields.idx_locN sl41 rfl rfl rfl (by omega)) rfl ?_
        refine AOps.store (j := 0) kd3 rfl rfl (getI_step hA (by omega)) rfl rfl rfl ?_
        refine AOps.nil ?_
        refine AWP.region ?_
        refine Y (mv rfl) rfl ?_
        refine Y (bn rfl rfl (BinR.addI (by omega) (by omega)) rfl) rfl ?_
        refine Y (ass rfl) rfl ?_
        refine AOps.nil ?_
        refine ⟨(i + 1, (ints (l.take i ++ List.replicate (l.length + Tr.room l.length - i) 0)).set (0 + i) (int n)), ?_, ?_, ?_⟩
        · show l.length - (i + 1) < l.length - i
          omega
        · show (i + 1) ≤ l.length ∧ ((ints (l.take i ++ List.replicate (l.length + Tr.room l.length - i) 0)).set (0 + i) (int n)) = ints (l.take (i + 1) ++ List.replicate (l.length + Tr.room l.length - (i + 1)) 0)
          exact ⟨by omega, by rw [setI_step hA (by omega), ← takeI_succ hn, show l.length + Tr.room l.length - i - 1 = l.length + Tr.room l.length - (i + 1) by omega]⟩
        · exact Leads.rows 0 ⟨rfl, rfl, rfl, rfl, trivial⟩
      · replace g := of_decide_eq_false g
        have hi' : i = l.length := by omega
        subst hi'
        rw [List.take_length]
        refine AWP.exit ?_
        refine AWP.seq ?_
        refine AWP.seq ?_
        refine AWP.region ?_
        refine Y (mv rfl) rfl ?_
        refine Y (Yields.len_ro sl41 rfl) rfl ?_
        refine Y (ass rfl) rfl ?_
        refine AOps.nil ?_
        refine AWP.block ?_
        refine AWP.loopV (α := Nat × List AV) (fun pp : Nat × List AV => match pp with | (i, xs) => ⟨[(0, .ro 1 (ints l) [] false), (1, bool b), (5, .loc (some b1) 0 (l.length + Tr.room l.length) (l.length + Tr.room l.length) 1), (7, int i)], [(some b1, ⟨1, xs⟩)]⟩) (fun pp : Nat × List AV => match pp with | (i, xs) => i ≤ l.length + Tr.room l.length ∧ l.length ≤ i ∧ xs = ints ((l ++ List.replicate (i - l.length) fillI) ++ List.replicate (l.length + Tr.room l.length - i) 0)) (fun pp : Nat × List AV => match pp with | (i, xs) => l.length + Tr.room l.length - i) ((l.length, ints (l ++ List.replicate (l.length + Tr.room l.length - l.length) 0))) ?_ ?_ ?_
        · exact Leads.rows 0 ⟨rfl, rfl, rfl, (by show some (AV.val (Value.int .i64 _)) = some (AV.val (Value.int .i64 _)); rw [hlen]), trivial⟩
        · show l.length ≤ l.length + Tr.room l.length ∧ l.length ≤ l.length ∧ (ints (l ++ List.replicate (l.length + Tr.room l.length - l.length) 0)) = ints ((l ++ List.replicate (l.length - l.length) fillI) ++ List.replicate (l.length + Tr.room l.length - l.length) 0)
          exact ⟨by omega, Nat.le_refl _, by simp⟩
        · rintro ⟨i, xs⟩ hinv
          replace hinv : i ≤ l.length + Tr.room l.length ∧ l.length ≤ i ∧ xs = ints ((l ++ List.replicate (i - l.length) fillI) ++ List.replicate (l.length + Tr.room l.length - i) 0) := hinv
          show AWP _ _ _ _ ⟨[(0, .ro 1 (ints l) [] false), (1, bool b), (5, .loc (some b1) 0 (l.length + Tr.room l.length) (l.length + Tr.room l.length) 1), (7, int i)], [(some b1, ⟨1, xs⟩)]⟩
          refine AWP.seq ?_
          refine AWP.seq ?_
          refine AWP.region ?_
          obtain ⟨hi, hi1, rfl⟩ := hinv
          refine Y (mv rfl) rfl ?_
          refine Y (mv rfl) rfl ?_
          refine Y (Yields.len_loc sl41 rfl) rfl ?_
          refine Y (bn rfl rfl BinR.lss rfl) rfl ?_
          refine AOps.nil ?_
          refine AWP.condT rfl (fun g2 => ?_) (fun g2 => ?_)
          · replace g2 := of_decide_eq_true g2
            have hA : (l ++ List.replicate (i - l.length) fillI).length = i := by rw [List.length_append, List.length_replicate]; omega
            refine AWP.skip ?_
            refine AWP.seq ?_
            refine AWP.block ?_
            refine AWP.region ?_
            refine Y (mv rfl) rfl ?_
            refine Y (mv rfl) rfl ?_
            refine Y (Yields.idx_locN sl41 rfl rfl rfl (by omega)) rfl ?_
            refine AOps.store (j := 0) kd3 rfl rfl (getI_step hA (by omega)) rfl rfl rfl ?_
            refine AOps.nil ?_
            refine AWP.region ?_
            refine Y (mv rfl) rfl ?_
            refine Y (bn rfl rfl (BinR.addI (by omega) (by omega)) rfl) rfl ?_
            refine Y (ass rfl) rfl ?_
            refine AOps.nil ?_
            refine ⟨(i + 1, (ints ((l ++ List.replicate (i - l.length) fillI) ++ List.replicate (l.length + Tr.room l.length - i) 0)).set (0 + i) (int fillI)), ?_, ?_, ?_⟩
            · show l.length + Tr.room l.length - (i + 1) < l.length + Tr.room l.length - i
              omega
            · show (i + 1) ≤ l.length + Tr.room l.length ∧ l.length ≤ (i + 1) ∧ ((ints ((l ++ List.replicate (i - l.length) fillI) ++ List.replicate (l.length + Tr.room l.length - i) 0)).set (0 + i) (int fillI)) = ints ((l ++ List.replicate ((i + 1) - l.length) fillI) ++ List.replicate (l.length + Tr.room l.length - (i + 1)) 0)
              refine ⟨by omega, by omega, ?_⟩
              rw [setI_step hA (by omega), List.append_assoc l, ← List.replicate_succ', show i - l.length + 1 = i + 1 - l.length by omega, show l.length + Tr.room l.length - i - 1 = l.length + Tr.room l.length - (i + 1) by omega]
            · exact Leads.rows 0 ⟨rfl, rfl, rfl, rfl, trivial⟩
          · replace g2 := of_decide_eq_false g2
            have hi' : i = l.length + Tr.room l.length := by omega
            subst hi'
            have hsp : spareI b l.length = List.replicate (Tr.room l.length) fillI := by
               unfold spareI
               cases b with
               | false => rfl
               | true => rw [if_neg (by simpa using hb rfl)]
            refine AWP.exit ?_
            refine AWP.seq ?_
            refine AWP.region ?_
            refine Y (mv rfl) rfl ?_
            refine Y (mv rfl) rfl ?_
            refine Y (Yields.len_ro sl41 rfl) rfl ?_
            refine Y (Yields.slice_loc sl41 rfl (u := l.length) ⟨.i64, by show some (AV.val (Value.int .i64 _)) = _; rw [hlen]⟩ (by omega)) rfl ?_
            refine Y (ass rfl) rfl ?_
            refine AOps.nil ?_
            refine AWP.ret ⟨.inl rfl, ?_⟩
            exact RetH.of (rs := [.tmp 4]) (vs := [_]) rfl ⟨rfl, trivial⟩ (KeepR.cons 0 rfl KeepR.nil) (⟨some b1, by rw [hsp, List.length_replicate]; rfl, by rw [hsp, ← ints_append, Nat.sub_self, Nat.add_sub_cancel_left, List.replicate_zero, List.append_nil]⟩)
theorem toIntS_AH (b : Bool) (l : List Int) (hl : l.length ≤ 1000000) : FnH 26 [] [.ro 1 (ints l) [] false, bool b] (ownI b l) := by
  by_cases hb : b = true ∧ l.length = 0
  · obtain ⟨rfl, h0⟩ := hb
    have : l = [] := List.length_eq_zero_iff.1 h0
    subst this
    exact toIntS_nil
  · exact toIntS_of b l hl (fun e h0 => hb ⟨e, h0⟩)
theorem toIntS_AF (b : Bool) (l : List Int) (hl : l.length ≤ 1000000) : Fn 26 [.ro 1 (ints l) [] false, bool b] (.ro 1 (ints l) (ints (spareI b l.length)) false) :=
  AH.toF rfl (toIntS_AH b l hl) (fun r hp' h => ownI.fz h)

theorem eqIntS_AF (l : List Int) (sa sb : List AV) (ca cb : Bool) (hl : l.length ≤ 4000000) : Fn 40 [.ro 1 (ints l) sa ca, .ro 1 (ints l) sb cb] (bool true) := by
  have hlen := ints_length l
  refine AF.intro Try.func40 nm40 rfl rfl rfl rfl fun w0 ok0 => ?_
  refine AWP.seq ?_
  refine AWP.region ?_
  refine Y (ass rfl) rfl ?_
  refine AOps.nil ?_
  refine AWP.seq ?_
  refine AWP.seq ?_
  refine AWP.region ?_
  refine Y (mv rfl) rfl ?_
  refine Y (Yields.len_ro sl41 rfl) rfl ?_
  refine Y (mv rfl) rfl ?_
  refine Y (Yields.len_ro sl41 rfl) rfl ?_
  refine Y (bn rfl rfl BinR.neq rfl) rfl ?_
  refine AOps.nil ?_
  refine AWP.condT rfl (fun h => ?_) (fun h => ?_)
  ·
   replace h := bne_iff_ne.1 h
   exact absurd rfl h
  ·
   replace h := bne_eq_false_iff_eq.1 h
   refine AWP.skip ?_
   refine AWP.seq ?_
   refine AWP.seq ?_
   refine AWP.region ?_
   refine Y (ass rfl) rfl ?_
   refine AOps.nil ?_
   refine AWP.block ?_
   refine AWP.loopV (α := Nat) (fun i : Nat => ⟨[(0, .ro 1 (ints l) sa ca), (1, .ro 1 (ints l) sb cb), (5, int i)], []⟩) (fun i : Nat => i ≤ l.length) (fun i : Nat => l.length - i) (0) ?_ ?_ ?_
   · exact Leads.rows 0 ⟨rfl, rfl, rfl, trivial⟩
   ·
    show 0 ≤ l.length
    exact Nat.zero_le _
   ·
    rintro i hinv
    refine AWP.seq ?_
    refine AWP.seq ?_
    refine AWP.region ?_
    refine Y (mv rfl) rfl ?_
    refine Y (mv rfl) rfl ?_
    refine Y (Yields.len_ro sl41 rfl) rfl ?_
    refine Y (bn rfl rfl BinR.lss rfl) rfl ?_
    refine AOps.nil ?_
    refine AWP.condT rfl (fun g => ?_) (fun g => ?_)
    ·
     replace g := of_decide_eq_true g
     obtain ⟨n, hn, _⟩ := drop_at (l := l) (i := i) (by omega)
     refine AWP.skip ?_
     refine AWP.seq ?_
     refine AWP.block ?_
     refine AWP.seq ?_
     refine AWP.prune (tm' := [(0, _), (1, _), (5, _), (14, _)]) ⟨rfl, rfl, rfl, rfl, trivial⟩ ?_
     refine AWP.drawn mixed rfl rfl ?_
     refine D (tm' := [(0, _)]) ⟨rfl, trivial⟩ (DStep.yields (mv rfl)) rfl ?_
     refine D (tm' := [(5, _)]) ⟨rfl, trivial⟩ (DStep.yields (mv rfl)) rfl ?_
     refine D (tm' := [(17, _), (18, _)]) ⟨rfl, rfl, trivial⟩ (DStep.yields (Yields.idx_roN sl41 rfl rfl rfl rfl (by omega))) rfl ?_
     refine D (tm' := [(19, _)]) ⟨rfl, trivial⟩ (DStep.yields (Yields.load_rop_one kd3 rfl (ints_at hn) rfl)) rfl ?_
     refine D (tm' := [(1, _)]) ⟨rfl, trivial⟩ (DStep.yields (mv rfl)) rfl ?_
     refine D (tm' := [(5, _)]) ⟨rfl, trivial⟩ (DStep.yields (mv rfl)) rfl ?_
     refine D (tm' := [(21, _), (22, _)]) ⟨rfl, rfl, trivial⟩ (DStep.yields (Yields.idx_roN sl41 rfl rfl rfl rfl (by omega))) rfl ?_
     refine D (tm' := [(23, _)]) ⟨rfl, trivial⟩ (DStep.yields (Yields.load_rop_one kd3 rfl (ints_at hn) rfl)) rfl ?_
     refine D (tm' := [(20, _), (24, _)]) ⟨rfl, rfl, trivial⟩ (DStep.yields (bn rfl rfl BinR.neq rfl)) rfl ?_
     refine DOps.nil ?_
     refine AWP.condT rfl (fun g2 => ?_) (fun g2 => ?_)
     ·
      replace g2 := bne_iff_ne.1 g2
      exact absurd rfl g2
     ·
      replace g2 := bne_eq_false_iff_eq.1 g2
      refine AWP.skip ?_
      refine AWP.region ?_
      refine Y (mv rfl) rfl ?_
      refine Y (bn rfl rfl (BinR.addI (by omega) (by omega)) rfl) rfl ?_
      refine Y (ass rfl) rfl ?_
      refine AOps.nil ?_
      refine ⟨i + 1, ?_, ?_, ?_⟩
      ·
       show l.length - (i + 1) < l.length - i
       omega
      ·
       show (i + 1) ≤ l.length
       omega
      · exact Leads.rows 0 ⟨rfl, rfl, rfl, trivial⟩
    ·
     replace g := of_decide_eq_false g
     refine AWP.exit ?_
     refine AWP.seq ?_
     refine AWP.region ?_
     refine Y (ass rfl) rfl ?_
     refine AOps.nil ?_
     refine AWP.ret ⟨.inl rfl, ?_⟩
     exact RetIs.oneV rfl rfl (by (rfl) <;> rfl)
theorem intactIntS_AF (l : List Int) (hl : l.length ≤ 1000000) : Fn 29 [.ro 1 (ints l) (ints (spareI false l.length)) false, .ro 1 (ints l) (ints (spareI false l.length)) false] (bool true) := by
  have hlen := ints_length l
  have hsp : (ints (spareI false l.length)).length = Tr.room l.length := by simp [ints, spareI]
  have hrle := Tr.room_le l.length
  have hroom : Tr.room (ints l).length = Tr.room l.length := by rw [hlen]
  have hall : ((ints l ++ ints (spareI false l.length)).drop 0).take (l.length + Tr.room l.length - 0) = ints (l ++ spareI false l.length) := by
    rw [List.drop_zero, ints_append, List.take_of_length_le (by simp [hlen, hsp])]
  refine AF.intro Try.func29 nm29 rfl rfl rfl rfl fun w0 ok0 => ?_
  refine AWP.seq ?_
  refine AWP.region ?_
  refine Y (ass rfl) rfl ?_
  refine AOps.nil ?_
  refine AWP.seq ?_
  refine AWP.region ?_
  refine Y (mv rfl) rfl ?_
  refine Y (Yields.len_ro sl41 rfl) rfl ?_
  refine Y (mv rfl) rfl ?_
  refine Y (Yields.len_ro sl41 rfl) rfl ?_
  refine AOps.callro (roomBehind_AF (ints l).length) rfl rfl rfl ?_
  refine Y (bn rfl rfl (BinR.addI (by omega) (by omega)) rfl) rfl ?_
  refine Y (ass rfl) rfl ?_
  refine AOps.nil ?_
  refine AWP.seq ?_
  refine AWP.prune (tm' := [(0, _), (1, _), (4, _), (5, _)]) ⟨rfl, rfl, rfl, rfl, trivial⟩ ?_
  refine AWP.drawn mixed rfl rfl ?_
  refine D (tm' := [(0, _)]) ⟨rfl, trivial⟩ (DStep.yields (mv rfl)) rfl ?_
  refine D (tm' := [(12, _)]) ⟨rfl, trivial⟩ (DStep.yields (Yields.len_ro sl41 rfl)) rfl ?_
  refine D (tm' := [(1, _)]) ⟨rfl, trivial⟩ (DStep.yields (mv rfl)) rfl ?_
  refine D (tm' := [(14, _)]) ⟨rfl, trivial⟩ (DStep.yields (Yields.len_ro sl41 rfl)) rfl ?_
  refine D (tm' := [(13, _), (15, _)]) ⟨rfl, rfl, trivial⟩ (DStep.yields (bn rfl rfl BinR.eql rfl)) rfl ?_
  refine D (tm' := [(16, _)]) ⟨rfl, trivial⟩ (DStep.yields (mv rfl)) rfl ?_
  refine DOps.split 5 rfl (fun h => ?_) (fun h => ?_)
  ·
   replace h := eq_of_beq h
   refine DOps.on rfl rfl ?_
   refine D (tm' := [(0, _)]) ⟨rfl, trivial⟩ (DStep.yields (mv rfl)) rfl ?_
   refine DOps.on rfl rfl ?_
   refine D (tm' := [(5, _)]) ⟨rfl, trivial⟩ (DStep.yields (mv rfl)) rfl ?_
   refine DOps.on rfl rfl ?_
   refine D (tm' := [(18, _), (19, _)]) ⟨rfl, rfl, trivial⟩ (DStep.yields (Yields.slice_ro sl41 rfl (l := 0) (u := l.length + Tr.room l.length) rfl ⟨.i64, by show some (AV.val (Value.int .i64 _)) = _; congr 3; omega⟩ (by omega) (by omega))) rfl ?_
   refine DOps.on rfl rfl ?_
   refine D (tm' := [(1, _)]) ⟨rfl, trivial⟩ (DStep.yields (mv rfl)) rfl ?_
   refine DOps.on rfl rfl ?_
   refine D (tm' := [(5, _)]) ⟨rfl, trivial⟩ (DStep.yields (mv rfl)) rfl ?_
   refine DOps.on rfl rfl ?_
   refine D (tm' := [(21, _), (22, _)]) ⟨rfl, rfl, trivial⟩ (DStep.yields (Yields.slice_ro sl41 rfl (l := 0) (u := l.length + Tr.room l.length) rfl ⟨.i64, by show some (AV.val (Value.int .i64 _)) = _; congr 3; omega⟩ (by omega) (by omega))) rfl ?_
   refine DOps.on rfl rfl ?_
   refine D (tm' := [(20, _), (23, _)]) ⟨rfl, rfl, trivial⟩ (DStep.callw (eqIntS_AF (l ++ spareI false l.length) ((ints l ++ ints (spareI false l.length)).drop (l.length + Tr.room l.length)) ((ints l ++ ints (spareI false l.length)).drop (l.length + Tr.room l.length)) false false (by rw [List.length_append]; simp [spareI]; omega)) rfl ⟨hall ▸ Wk.refl _, hall ▸ Wk.refl _, trivial⟩ rfl) rfl ?_
   refine D (tm' := [(17, _), (24, _)]) ⟨rfl, rfl, trivial⟩ (DStep.yields (Yields.pick_true rfl rfl)) rfl ?_
   refine D (tm' := [(25, _)]) ⟨rfl, trivial⟩ (DStep.yields (ass rfl)) rfl ?_
   refine DOps.nil ?_
   refine AWP.ret ⟨.inl rfl, ?_⟩
   exact RetIs.oneV rfl rfl (by (rfl) <;> rfl)
  ·
   replace h := ne_of_beq_false h
   exact absurd rfl h
def markIs : Nat → Nat → List Int
  | 0, _ => []
  | n + 1, k => (k : Int) :: markIs n (k + 1)
theorem markIs_length : ∀ n k, (markIs n k).length = n
  | 0, _ => rfl
  | n + 1, k => by simp [markIs, markIs_length n]
theorem markIs_at : ∀ {n k i : Nat}, i < n → (markIs n k)[i]? = some ((k + i : Nat) : Int)
  | 0, _, _, h => by omega
  | n + 1, k, 0, h => by simp [markIs]
  | n + 1, k, i + 1, h => by
    simp only [markIs, List.getElem?_cons_succ]
    rw [markIs_at (by omega)]
    congr 2; omega
theorem markIs_set {l : List Int} {k i : Nat} {r : List AV} (h : i < l.length) : (ints ((markIs l.length k).take i ++ l.drop i) ++ r).set (0 + i) (int ((k + i : Nat) : Int)) = ints ((markIs l.length k).take (i + 1) ++ l.drop (i + 1)) ++ r := by
  have h1 : ((markIs l.length k).take i).length = i := by rw [List.length_take, markIs_length]; omega
  rw [Nat.zero_add, ints_set (by simp [h1]; omega)]
  congr 2
  rw [takeI_succ (markIs_at h), List.set_append_right _ _ (by omega), h1, Nat.sub_self, List.drop_eq_getElem_cons h, List.set_cons_zero]
  simp
theorem markIntS_AH (l : List Int) (r : List AV) (n : Nat) (B : Option Nat) (k : Nat) (hk : k + l.length ≤ 8000000000000000000) : FnH 30 [(B, ⟨1, ints l ++ r⟩)] [.loc B 0 l.length n 1, int k] (fun v hp' => v = int ((k + l.length : Nat) : Int) ∧ hp' = [(B, ⟨1, ints (markIs l.length k) ++ r⟩)]) := by
  refine AH.intro Try.func30 nm30 rfl rfl rfl fun w0 ok0 own0 => ?_
  refine AWP.seq ?_
  refine AWP.region ?_
  refine Y (ass rfl) rfl ?_
  refine AOps.nil ?_
  refine AWP.seq ?_
  refine AWP.seq ?_
  refine AWP.region ?_
  refine Y (ass rfl) rfl ?_
  refine AOps.nil ?_
  refine AWP.block ?_
  refine AWP.loopV (α := Nat × List AV) (fun pp : Nat × List AV => match pp with | (i, xs) => ⟨[(0, .loc B 0 l.length n 1), (1, int ((k + i : Nat) : Int)), (5, int i)], [(B, ⟨1, xs⟩)]⟩) (fun pp : Nat × List AV => match pp with | (i, xs) => i ≤ l.length ∧ xs = ints ((markIs l.length k).take i ++ l.drop i) ++ r) (fun pp : Nat × List AV => match pp with | (i, xs) => l.length - i) ((0, ints l ++ r)) ?_ ?_ ?_
  · exact Leads.rows 0 ⟨rfl, rfl, rfl, trivial⟩
  ·
   show 0 ≤ l.length ∧ (ints l ++ r) = ints ((markIs l.length k).take 0 ++ l.drop 0) ++ r
   exact ⟨Nat.zero_le _, by simp⟩
  ·
   rintro ⟨i, xs⟩ hinv
   replace hinv : i ≤ l.length ∧ xs = ints ((markIs l.length k).take i ++ l.drop i) ++ r := hinv
   show AWP _ _ _ _ ⟨[(0, .loc B 0 l.length n 1), (1, int ((k + i : Nat) : Int)), (5, int i)], [(B, ⟨1, xs⟩)]⟩
   refine AWP.seq ?_
   refine AWP.seq ?_
   refine AWP.region ?_
   obtain ⟨hi, rfl⟩ := hinv
   refine Y (mv rfl) rfl ?_
   refine Y (mv rfl) rfl ?_
   refine Y (Yields.len_loc sl41 rfl) rfl ?_
   refine Y (bn rfl rfl BinR.lss rfl) rfl ?_
   refine AOps.nil ?_
   refine AWP.condT rfl (fun g => ?_) (fun g => ?_)
   ·
    replace g := of_decide_eq_true g
    have hlt : i < l.length := by omega
    have hl1 : (ints ((markIs l.length k).take i ++ l.drop i)).length = l.length := by rw [ints_length, List.length_append, List.length_take, List.length_drop, markIs_length]; omega
    refine AWP.someRow 0 rfl (by intro e; have e := congrArg List.length e; simp only [List.length_append, hl1, List.length_nil] at e; omega) fun b hsr => ?_
    subst hsr
    refine AWP.skip ?_
    refine AWP.seq ?_
    refine AWP.block ?_
    refine AWP.seq ?_
    refine AWP.region ?_
    refine Y (mv rfl) rfl ?_
    refine Y (mv rfl) rfl ?_
    refine Y (mv rfl) rfl ?_
    refine Y (Yields.idx_locN sl41 rfl rfl (j := i) rfl (by omega)) rfl ?_
    refine AOps.store (j := 0) kd3 rfl rfl (i := 0 + i) (by rw [Nat.zero_add]; exact List.getElem?_eq_getElem (by rw [List.length_append]; omega)) rfl rfl rfl ?_
    refine AOps.nil ?_
    refine AWP.region ?_
    refine Y (mv rfl) rfl ?_
    refine Y (bn rfl rfl (BinR.addI (by omega) (by omega)) rfl) rfl ?_
    refine Y (ass rfl) rfl ?_
    refine AOps.nil ?_
    refine AWP.region ?_
    refine Y (mv rfl) rfl ?_
    refine Y (bn rfl rfl (BinR.addI (by omega) (by omega)) rfl) rfl ?_
    refine Y (ass rfl) rfl ?_
    refine AOps.nil ?_
    refine ⟨(i + 1, (ints ((markIs l.length k).take i ++ l.drop i) ++ r).set (0 + i) (int ((k + i : Nat) : Int))), ?_, ?_, ?_⟩
    ·
     show l.length - (i + 1) < l.length - i
     omega
    ·
     show (i + 1) ≤ l.length ∧ ((ints ((markIs l.length k).take i ++ l.drop i) ++ r).set (0 + i) (int ((k + i : Nat) : Int))) = ints ((markIs l.length k).take (i + 1) ++ l.drop (i + 1)) ++ r
     exact ⟨by omega, markIs_set hlt⟩
    · exact Leads.rows 0 ⟨rfl, rfl, rfl, trivial⟩
   ·
    replace g := of_decide_eq_false g
    have hi' : i = l.length := by omega
    subst hi'
    refine AWP.exit ?_
    refine AWP.seq ?_
    refine AWP.region ?_
    refine Y (mv rfl) rfl ?_
    refine Y (ass rfl) rfl ?_
    refine AOps.nil ?_
    refine AWP.ret ⟨.inl rfl, ?_⟩
    exact RetH.of (rs := [.tmp 4]) (vs := [_]) rfl ⟨rfl, trivial⟩ (KeepR.cons 0 rfl KeepR.nil) (⟨rfl, by rw [List.drop_length, List.append_nil]; congr 3; rw [List.take_of_length_le (by rw [markIs_length]; omega)]⟩)
theorem heldIntS_AF (n k : Nat) (sp : List AV) (hk : k + n ≤ 8000000000000000000) : Fn 41 [.ro 1 (ints (markIs n k)) sp false, int k] (int ((k + n : Nat) : Int)) := by
  have hlen := markIs_length n k
  have hls := ints_length (markIs n k)
  refine AF.intro Try.func41 nm41 rfl rfl rfl rfl fun w0 ok0 => ?_
  refine AWP.seq ?_
  refine AWP.region ?_
  refine Y (ass rfl) rfl ?_
  refine AOps.nil ?_
  refine AWP.seq ?_
  refine AWP.seq ?_
  refine AWP.region ?_
  refine Y (ass rfl) rfl ?_
  refine AOps.nil ?_
  refine AWP.block ?_
  refine AWP.loopV (α := Nat) (fun i : Nat => ⟨[(0, .ro 1 (ints (markIs n k)) sp false), (1, int ((k + i : Nat) : Int)), (5, int i)], []⟩) (fun i : Nat => i ≤ n) (fun i : Nat => n - i) (0) ?_ ?_ ?_
  · exact Leads.rows 0 ⟨rfl, rfl, rfl, trivial⟩
  ·
   show 0 ≤ n
   exact Nat.zero_le _
  ·
   rintro i hinv
   refine AWP.seq ?_
   refine AWP.seq ?_
   refine AWP.region ?_
   refine Y (mv rfl) rfl ?_
   refine Y (mv rfl) rfl ?_
   refine Y (Yields.len_ro sl41 rfl) rfl ?_
   refine Y (bn rfl rfl BinR.lss rfl) rfl ?_
   refine AOps.nil ?_
   refine AWP.condT rfl (fun g => ?_) (fun g => ?_)
   ·
    replace g := of_decide_eq_true g
    refine AWP.skip ?_
    refine AWP.seq ?_
    refine AWP.block ?_
    refine AWP.seq ?_
    refine AWP.seq ?_
    refine AWP.region ?_
    refine Y (mv rfl) rfl ?_
    refine Y (mv rfl) rfl ?_
    refine Y (Yields.idx_roN sl41 rfl rfl rfl rfl (by omega)) rfl ?_
    refine Y (Yields.load_rop_one kd3 rfl (ints_at (markIs_at (by omega))) rfl) rfl ?_
    refine Y (mv rfl) rfl ?_
    refine Y (bn rfl rfl BinR.neq rfl) rfl ?_
    refine AOps.nil ?_
    refine AWP.condT rfl (fun g2 => ?_) (fun g2 => ?_)
    ·
     replace g2 := bne_iff_ne.1 g2
     exact absurd rfl g2
    ·
     replace g2 := bne_eq_false_iff_eq.1 g2
     refine AWP.skip ?_
     refine AWP.region ?_
     refine Y (mv rfl) rfl ?_
     refine Y (bn rfl rfl (BinR.addI (by omega) (by omega)) rfl) rfl ?_
     refine Y (ass rfl) rfl ?_
     refine AOps.nil ?_
     refine AWP.region ?_
     refine Y (mv rfl) rfl ?_
     refine Y (bn rfl rfl (BinR.addI (by omega) (by omega)) rfl) rfl ?_
     refine Y (ass rfl) rfl ?_
     refine AOps.nil ?_
     refine ⟨i + 1, ?_, ?_, ?_⟩
     ·
      show n - (i + 1) < n - i
      omega
     ·
      show (i + 1) ≤ n
      omega
     · exact Leads.rows 0 ⟨rfl, rfl, rfl, trivial⟩
   ·
    replace g := of_decide_eq_false g
    have hi' : i = n := by omega
    refine AWP.exit ?_
    refine AWP.seq ?_
    refine AWP.region ?_
    refine Y (mv rfl) rfl ?_
    refine Y (ass rfl) rfl ?_
    refine AOps.nil ?_
    refine AWP.ret ⟨.inl rfl, ?_⟩
    exact RetIs.oneV rfl rfl (by (rw [hi']) <;> rfl)
end Go.Proofs.Ytccdgppplkfjfaa
