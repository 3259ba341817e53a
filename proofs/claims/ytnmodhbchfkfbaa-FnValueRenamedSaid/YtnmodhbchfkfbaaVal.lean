/- The draw of values. -/
import Derived.Test.YtnmodhbchfkfbaaSrc
import Derived.Test.YtnmodhbchfkfbaaInts
namespace Go.Proofs.Ytnmodhbchfkfbaa
open Go Go.Ax Go.Proofs
set_option linter.unusedVariables false
set_option linter.unusedSimpArgs false
set_option maxRecDepth 20000
/-- A text of some kind; the source has moved on. -/
def srcP (P : ByteArray → Prop) (b : Nat) (code : List UInt8) (p k : Nat) : AV → Hp → Prop := fun r hp' => ∃ (s : ByteArray) (q : Nat), P s ∧ p ≤ q ∧ q ≤ p + k ∧ r = str s ∧ hp' = [src b code q]
theorem oneP_AH (P : ByteArray → Prop) (b : Nat) (code : List UInt8) (p : Nat) (l : List ByteArray) (hc : code.length ≤ 1048576) (hp : p ≤ 100000000000) (hl : l.length ≤ 1000000) (hne : l ≠ []) (hP : ∀ s ∈ l, P s) : FnH 24 [src b code p] [.ptr (some b) 0 0 2, .ro 1 (strs l) [] false] (srcP P b code p 2) := by
  have hls := strs_length l
  have hpos : 0 < l.length := List.length_pos_iff.2 hne
  refine AH.intro Try.func24 nm24 rfl rfl rfl fun w0 ok0 own0 => ?_
  refine AWP.seq ?_
  refine AWP.region ?_
  refine Y (ass rfl) rfl ?_
  refine AOps.nil ?_
  refine AWP.seq ?_
  refine AWP.seq ?_
  refine AWP.region ?_
  refine Y (mv rfl) rfl ?_
  refine Y (Yields.len_ro sl41 rfl) rfl ?_
  refine Y (bn rfl rfl BinR.eql rfl) rfl ?_
  refine AOps.nil ?_
  refine AWP.condT rfl (fun h => ?_) (fun h => ?_)
  · replace h := eq_of_beq h
    omega
  · replace h := ne_of_beq_false h
    refine AWP.skip ?_
    refine AWP.seq ?_
    refine AWP.region ?_
    refine Y (mv rfl) rfl ?_
    refine Y (mv rfl) rfl ?_
    refine Y (mv rfl) rfl ?_
    refine Y (Yields.len_ro sl41 rfl) rfl ?_
    refine AOps.callH (.inl trivial) (pick_AH b code p (strs l).length hc hp (by omega) (by omega)) rfl rfl rfl (WkL.refl _) ?_
    rintro _ _ ⟨m, q, h3, h4, h5, h6, rfl, rfl⟩
    obtain ⟨c, hcc, _⟩ := drop_at (l := l) (i := m.toNat) (by omega)
    refine Y (Yields.idx_roN sl41 rfl rfl rfl (j := m.toNat) (by omega) (by omega)) rfl ?_
    refine Y (Yields.load_rop_one kd9 rfl (strs_at hcc) rfl) rfl ?_
    refine Y (ass rfl) rfl ?_
    refine AOps.nil ?_
    refine AWP.ret ⟨.inl rfl, ?_⟩
    exact RetH.of (rs := [.tmp 4]) (vs := [_]) rfl ⟨rfl, trivial⟩ (KeepR.cons 0 rfl KeepR.nil) (⟨c, q, hP c (List.mem_of_getElem? hcc), h5, h6, rfl, rfl⟩)
def anyP (s : ByteArray) : Prop := s ∈ anyL1 ++ anyL2
theorem anyP_size {s : ByteArray} (h : anyP s) : s.size ≤ 24 := by
  have : ∀ s ∈ anyL1 ++ anyL2, s.size ≤ 24 := by decide
  exact this s h
theorem anyNameP_AH (b : Nat) (code : List UInt8) (p : Nat) (hc : code.length ≤ 1048576) (hp : p ≤ 10000000000) : FnH 23 [src b code p] [.ptr (some b) 0 0 2] (srcP anyP b code p 4) := by
  refine AH.intro Try.func23 nm23 rfl rfl rfl fun w0 ok0 own0 => ?_
  refine AWP.seq ?_
  refine AWP.region ?_
  refine Y (ass rfl) rfl ?_
  refine AOps.nil ?_
  refine AWP.seq ?_
  refine AWP.seq ?_
  refine AWP.region ?_
  refine Y (mv rfl) rfl ?_
  refine AOps.callH (.inl trivial) (rare_AH b code p hc (by omega)) rfl rfl rfl (WkL.refl _) ?_
  rintro _ _ ⟨m, q, h5, h6, rfl, rfl⟩
  refine AOps.nil ?_
  refine AWP.condT rfl (fun h => ?_) (fun h => ?_)
  · skip
    refine AWP.seq ?_
    refine AWP.region ?_
    refine Y (mv rfl) rfl ?_
    refine AOps.buildSlice sl41 z9 rfl rfl rfl rfl rfl fun l1 => ?_
    refine AOps.leads (Leads.freezeT 1 6 (.inl trivial) rfl (fz_strs anyL1 rfl)) ?_
    refine AOps.callH (.inl trivial) (oneP_AH anyP b code q anyL1 hc (by omega) (by decide) (by decide) (fun s hs => List.mem_append_left _ hs)) rfl rfl rfl (WkL.refl _) ?_
    rintro _ _ ⟨s, q', h7, h8, h9, rfl, rfl⟩
    refine Y (ass rfl) rfl ?_
    refine AOps.nil ?_
    refine AWP.ret ⟨.inl rfl, ?_⟩
    exact RetH.of (rs := [.tmp 2]) (vs := [_]) rfl ⟨rfl, trivial⟩ (KeepR.cons 0 rfl KeepR.nil) (⟨s, q', h7, by omega, by omega, rfl, rfl⟩)
  · skip
    refine AWP.skip ?_
    refine AWP.seq ?_
    refine AWP.region ?_
    refine Y (mv rfl) rfl ?_
    refine AOps.buildSlice sl41 z9 rfl rfl rfl rfl rfl fun l2 => ?_
    refine AOps.leads (Leads.freezeT 1 9 (.inl trivial) rfl (fz_strs anyL2 rfl)) ?_
    refine AOps.callH (.inl trivial) (oneP_AH anyP b code q anyL2 hc (by omega) (by decide) (by decide) (fun s hs => List.mem_append_right _ hs)) rfl rfl rfl (WkL.refl _) ?_
    rintro _ _ ⟨s, q', h7, h8, h9, rfl, rfl⟩
    refine Y (ass rfl) rfl ?_
    refine AOps.nil ?_
    refine AWP.ret ⟨.inl rfl, ?_⟩
    exact RetH.of (rs := [.tmp 2]) (vs := [_]) rfl ⟨rfl, trivial⟩ (KeepR.cons 0 rfl KeepR.nil) (⟨s, q', h7, by omega, by omega, rfl, rfl⟩)
def textL : List ByteArray := [⟨#[]⟩, ⟨#[97]⟩, ⟨#[104, 105]⟩, ⟨#[115, 111, 32, 115, 111]⟩, ⟨#[120, 43, 49]⟩, ⟨#[101, 110, 100, 46]⟩]
theorem text_AH (b : Nat) (code : List UInt8) (p : Nat) (hc : code.length ≤ 1048576) (hp : p ≤ 10000000000) : FnH 43 [src b code p] [.ptr (some b) 0 0 2] (srcS 24 b code p 2) := by
  refine AH.intro Try.func43 nm43 rfl rfl rfl fun w0 ok0 own0 => ?_
  refine AWP.seq ?_
  refine AWP.region ?_
  refine Y (ass rfl) rfl ?_
  refine AOps.nil ?_
  refine AWP.seq ?_
  refine AWP.region ?_
  refine Y (mv rfl) rfl ?_
  refine AOps.buildSlice sl41 z9 rfl rfl rfl rfl rfl fun l1 => ?_
  refine AOps.leads (Leads.freezeT 1 4 (.inl trivial) rfl (fz_strs textL rfl)) ?_
  refine AOps.callH (.inl trivial) (one_AH b code p 24 textL hc (by omega) (by decide) (by decide)) rfl rfl rfl (WkL.refl _) ?_
  rintro _ _ ⟨s, q', h7, h8, h9, rfl, rfl⟩
  refine Y (ass rfl) rfl ?_
  refine AOps.nil ?_
  refine AWP.ret ⟨.inl rfl, ?_⟩
  exact RetH.of (rs := [.tmp 2]) (vs := [_]) rfl ⟨rfl, trivial⟩ (KeepR.cons 0 rfl KeepR.nil) (⟨s, q', h7, by omega, by omega, rfl, rfl⟩)
def oddL : List ByteArray := [⟨#[]⟩, ⟨#[39]⟩, ⟨#[97, 10]⟩, ⟨#[97, 32, 108, 111, 110, 103, 32, 116, 101, 120, 116, 32, 111, 102, 32, 109, 97, 110, 121, 32, 115, 105, 103, 110, 115]⟩]
def anyN : List Int := [0, 1, 12, 345, 9999, 10000]
/-- How far the source moves at most, and how great a value is at most. -/
def costV : Nat → Nat
  | 0 => 20
  | d + 1 => 20 + 4 * costV d
def sizeV : Nat → Nat
  | 0 => 1
  | d + 1 => 1 + 4 * sizeV d
theorem sizeTs_snoc (l : List Tr) (k : Tr) : sizeTs (l ++ [k]) = sizeTs l + sizeT k := by
  induction l with
  | nil => simp [sizeTs]
  | cons x l ih => rw [List.cons_append, sizeTs, ih, sizeTs]; omega
theorem bnds_snoc {N : Nat} {l : List Tr} {k : Tr} (h : Tr.bnds N l) (hk : k.bnd N) : Tr.bnds N (l ++ [k]) := by
  induction l with
  | nil => exact ⟨hk, trivial⟩
  | cons x l ih => exact ⟨h.1, ih h.2⟩
theorem avs_snoc (l : List Tr) (k : Tr) : Tr.avs l ++ [k.av] = Tr.avs (l ++ [k]) := by
  induction l with
  | nil => rfl
  | cons x l ih => simp only [List.cons_append, Tr.avs, ih]
/-- A value; the source has moved on. -/
def srcV (N : Nat) (b : Nat) (code : List UInt8) (p k : Nat) : AV → Hp → Prop := fun r hp' => ∃ (v : Tr) (q : Nat), v.bnd 1000000 ∧ sizeT v ≤ N ∧ p ≤ q ∧ q ≤ p + k ∧ r = v.av ∧ hp' = [src b code q]
theorem plain_avs : ∀ l : List Tr, plainL (Tr.avs l) = true
  | [] => rfl
  | k :: l => by simp only [Tr.avs, plainL, Tr.plain_av, Bool.true_and]; exact plain_avs l
theorem fz_node {B : Option Nat} {k n : Int} {t : ByteArray} {l : List Tr} {len : Nat} (hl : len = l.length) : Fz [(B, ⟨4, Tr.avs l⟩)] (.agg [int k, int n, str t, .loc B 0 len len 4]) (Tr.av (.mk k n t l)) := by
  subst hl
  exact (Bor.agg (us := [int k, int n, str t, .loc B 0 l.length l.length 4]) (ps := [int k, int n, str t, .ro 4 (Tr.avs l) [] false]) ⟨Bor.refl rfl, Bor.refl rfl, Bor.refl rfl, Bor.loc (j := 0) rfl (by simp [Tr.avs_length]) (by rw [List.take_of_length_le (by simp [Tr.avs_length])]; exact viewL_refl (plain_avs l)), trivial⟩).fz
theorem sizeV_pos : ∀ d, 1 ≤ sizeV d
  | 0 => Nat.le_refl _
  | d + 1 => by rw [sizeV]; omega
theorem leaf_bnd (k n : Int) (t : ByteArray) (h : t.size ≤ 30) : Tr.bnd 1000000 (.mk k n t []) := ⟨by omega, by simp, trivial⟩
theorem leaf_size (k n : Int) (t : ByteArray) (d : Nat) : sizeT (.mk k n t []) ≤ sizeV d := by
  have := sizeV_pos d
  simp only [sizeT, sizeTs]
  omega
theorem wk_leaf (k n : Int) (t : ByteArray) : Wk (.agg [int k, int n, str t, .val (.slice none 0 0)]) (Tr.av (.mk k n t [])) := Wk.agg (ps := [int k, int n, str t, .ro 4 [] [] false]) ⟨Wk.refl _, Wk.refl _, Wk.refl _, Wk.nil, trivial⟩
theorem anyValueW_AH (d b : Nat) (code : List UInt8) (p : Nat) (hd : d ≤ 6) (hc : code.length ≤ 1048576) (hp : p + costV d ≤ 1000000)
    (ih : ∀ e, d = e + 1 → ∀ p, p + costV e ≤ 1000000 → FnH 29 [src b code p] [.ptr (some b) 0 0 2, int e] (srcV (sizeV e) b code p (costV e))) : FnH 29 [src b code p] [.ptr (some b) 0 0 2, int d] (srcV (sizeV d) b code p (costV d)) := by
  have hcost : 20 ≤ costV d := by cases d <;> (rw [costV]; omega)
  have hsz := sizeV_pos d
  refine AH.intro Try.func29 nm29 rfl rfl rfl fun w0 ok0 own0 => ?_
  refine AWP.seq ?_
  refine AWP.region ?_
  refine AOps.alloc rfl z30 rfl rfl fun b4 => ?_
  refine AOps.nil ?_
  refine AWP.midE (α := Nat) (fun q : Nat => ⟨[(0, .ptr (some b) 0 0 2), (1, int d), (4, .ptr (some b4) 0 0 4)], [src b code q, (some b4, ⟨4, [zero4]⟩)]⟩) (fun q : Nat => p ≤ q ∧ q ≤ p + 2) ?_ ?_
  · skip
    refine AWP.seq ?_
    refine AWP.region ?_
    refine Y (mv rfl) rfl ?_
    refine AOps.leads (Leads.pull 1 rfl) ?_
    refine AOps.callH (.inl trivial) (pick_AH b code p 7 hc (by omega) (by omega) (by omega)) rfl rfl rfl (WkL.refl _) ?_
    rintro _ _ ⟨m0, q0, g1, g2, g3, g4, rfl, rfl⟩
    refine AOps.nil ?_
    refine AWP.block ?_
    refine AWP.seq ?_
    refine AWP.region ?_
    refine Y (bn rfl rfl BinR.eql rfl) rfl ?_
    refine Y (ass rfl) rfl ?_
    refine AOps.nil ?_
    refine AWP.condT rfl (fun c0 => ?_) (fun c0 => ?_)
    · replace c0 := eq_of_beq c0
      refine AWP.seq ?_
      refine AWP.region ?_
      refine Y (mv rfl) rfl ?_
      refine AOps.callH (.inl trivial) (pick_AH b code q0 2 hc (by omega) (by omega) (by omega)) rfl rfl rfl (WkL.refl _) ?_
      rintro _ _ ⟨m, q1, k1, k2, k3, k4, rfl, rfl⟩
      refine Y (Yields.build pl30 z30 rfl rfl) rfl ?_
      refine AOps.store (j := 1) kd30 rfl rfl rfl rfl rfl rfl ?_
      refine AOps.nil ?_
      refine AWP.leads (Leads.rowWk 1 0 rfl rfl (wk_leaf _ _ _)) ?_
      refine AWP.ret ⟨.inl rfl, ?_⟩
      exact RetH.of (rs := [.cell 4 30]) (vs := [_]) rfl ⟨resOne.cell (j := 1) rfl rfl kd30 rfl rfl rfl, trivial⟩ (KeepR.cons 0 rfl KeepR.nil) (⟨.mk 1 m ⟨#[]⟩ [], q1, leaf_bnd _ _ _ (by decide), leaf_size _ _ _ _, by omega, by omega, rfl, rfl⟩)
    · replace c0 := ne_of_beq_false c0
      refine AWP.seq ?_
      refine AWP.region ?_
      refine Y (bn rfl rfl BinR.eql rfl) rfl ?_
      refine Y (ass rfl) rfl ?_
      refine AOps.nil ?_
      refine AWP.condT rfl (fun c1 => ?_) (fun c1 => ?_)
      · replace c1 := eq_of_beq c1
        refine AWP.seq ?_
        refine AWP.region ?_
        refine Y (mv rfl) rfl ?_
        refine AOps.callH (.inl trivial) (text_AH b code q0 hc (by omega)) rfl rfl rfl (WkL.refl _) ?_
        rintro _ _ ⟨s, q1, k2, k3, k4, rfl, rfl⟩
        refine Y (Yields.build pl30 z30 rfl rfl) rfl ?_
        refine AOps.store (j := 1) kd30 rfl rfl rfl rfl rfl rfl ?_
        refine AOps.nil ?_
        refine AWP.leads (Leads.rowWk 1 0 rfl rfl (wk_leaf _ _ _)) ?_
        refine AWP.ret ⟨.inl rfl, ?_⟩
        exact RetH.of (rs := [.cell 4 30]) (vs := [_]) rfl ⟨resOne.cell (j := 1) rfl rfl kd30 rfl rfl rfl, trivial⟩ (KeepR.cons 0 rfl KeepR.nil) (⟨.mk 2 0 s [], q1, leaf_bnd _ _ _ (by omega), leaf_size _ _ _ _, by omega, by omega, rfl, rfl⟩)
      · replace c1 := ne_of_beq_false c1
        refine AWP.midE (α := Bool) (fun f : Bool => ⟨[(0, .ptr (some b) 0 0 2), (1, int d), (4, .ptr (some b4) 0 0 4), (10, int m0), (21, bool f)], [src b code q0, (some b4, ⟨4, [zero4]⟩)]⟩) (fun f : Bool => True) ?_ ?_
        · skip
          refine AWP.seq ?_
          refine AWP.region ?_
          refine Y (bn rfl rfl BinR.eql rfl) rfl ?_
          refine Y (ass rfl) rfl ?_
          refine AOps.nil ?_
          refine AWP.condT rfl (fun c2 => ?_) (fun c2 => ?_)
          · replace c2 := eq_of_beq c2
            refine AWP.skip ?_
            refine ⟨true, ?_, ?_⟩
            · show True
              trivial
            · exact Leads.keepR (KeepR.cons 0 rfl (KeepR.cons 0 rfl KeepR.nil)) ⟨rfl, rfl, rfl, rfl, rfl, trivial⟩
          · replace c2 := ne_of_beq_false c2
            refine AWP.region ?_
            refine Y (bn rfl rfl BinR.eql rfl) rfl ?_
            refine Y (ass rfl) rfl ?_
            refine AOps.nil ?_
            refine ⟨decide (m0 = 3), ?_, ?_⟩
            · show True
              trivial
            · exact Leads.keepR (KeepR.cons 0 rfl (KeepR.cons 0 rfl KeepR.nil)) ⟨rfl, rfl, rfl, rfl, rfl, trivial⟩
        · rintro f hinv
          refine AWP.condT rfl (fun c3 => ?_) (fun c3 => ?_)
          · skip
            refine AWP.seq ?_
            refine AWP.region ?_
            refine Y (mv rfl) rfl ?_
            refine Y (bn rfl rfl BinR.gtr rfl) rfl ?_
            refine AOps.nil ?_
            refine AWP.condT rfl (fun c4 => ?_) (fun c4 => ?_)
            · replace c4 := of_decide_eq_true c4
              refine AWP.seq ?_
              refine AWP.region ?_
              obtain ⟨e, he⟩ : ∃ e, d = e + 1 := ⟨d - 1, by omega⟩
              have hcd : costV d = 20 + 4 * costV e := by rw [he, costV]
              have hsd : sizeV d = 1 + 4 * sizeV e := by rw [he, sizeV]
              have hse := sizeV_pos e
              refine Y (Yields.build pl30 z30 rfl rfl) rfl ?_
              refine AOps.alloc rfl z30 rfl rfl fun b5 => ?_
              refine AOps.store (j := 0) kd30 rfl rfl rfl rfl rfl rfl ?_
              refine AOps.nil ?_
              refine AWP.seq ?_
              refine AWP.seq ?_
              refine AWP.region ?_
              refine Y (mv rfl) rfl ?_
              refine AOps.leads (Leads.pull 1 rfl) ?_
              refine AOps.callH (.inl trivial) (pick_AH b code q0 4 hc (by omega) (by omega) (by omega)) rfl rfl rfl (WkL.refl _) ?_
              rintro _ _ ⟨m, q1, k1, k2, k3, k4, rfl, rfl⟩
              refine Y (ass rfl) rfl ?_
              refine AOps.nil ?_
              refine AWP.leads (Leads.rowWk 1 0 rfl rfl (Wk.agg (ps := [_, _, _, .loc none 0 0 0 4]) ⟨Wk.refl _, Wk.refl _, Wk.refl _, Wk.nilLoc (n := 4), trivial⟩)) ?_
              refine AWP.leads (Leads.row0 4) ?_
              refine AWP.block ?_
              refine AWP.loopV (α := Option Nat × List Tr × Nat × Int) (fun pp : Option Nat × List Tr × Nat × Int => match pp with | (B, l, q, n) => ⟨[(0, .ptr (some b) 0 0 2), (1, int d), (4, .ptr (some b4) 0 0 4), (5, .ptr (some b5) 0 0 4), (6, int n)], [src b code q, (some b5, ⟨4, [.agg [int 3, int 0, str ⟨#[]⟩, .loc B 0 l.length l.length 4]]⟩), (B, ⟨4, Tr.avs l⟩), (some b4, ⟨4, [zero4]⟩)]⟩) (fun pp : Option Nat × List Tr × Nat × Int => match pp with | (B, l, q, n) => 0 ≤ n ∧ l.length + n ≤ 4 ∧ Tr.bnds 1000000 l ∧ sizeTs l ≤ l.length * sizeV e ∧ p ≤ q ∧ q ≤ p + 4 + l.length * costV e) (fun pp : Option Nat × List Tr × Nat × Int => match pp with | (B, l, q, n) => n.toNat) ((none, [], q1, m)) ?_ ?_ ?_
              · exact Leads.keepR (KeepR.cons 1 rfl (KeepR.cons 1 rfl (KeepR.cons 0 rfl (KeepR.cons 0 rfl KeepR.nil)))) ⟨rfl, rfl, rfl, rfl, rfl, trivial⟩
              · show 0 ≤ m ∧ ([]).length + m ≤ 4 ∧ Tr.bnds 1000000 ([]) ∧ sizeTs ([]) ≤ ([]).length * sizeV e ∧ p ≤ q1 ∧ q1 ≤ p + 4 + ([]).length * costV e
                exact ⟨k1, by simp; omega, trivial, by simp [sizeTs], by omega, by simp; omega⟩
              · rintro ⟨B, l, q, n⟩ hinv
                replace hinv : 0 ≤ n ∧ l.length + n ≤ 4 ∧ Tr.bnds 1000000 l ∧ sizeTs l ≤ l.length * sizeV e ∧ p ≤ q ∧ q ≤ p + 4 + l.length * costV e := hinv
                show AWP _ _ _ _ ⟨[(0, .ptr (some b) 0 0 2), (1, int d), (4, .ptr (some b4) 0 0 4), (5, .ptr (some b5) 0 0 4), (6, int n)], [src b code q, (some b5, ⟨4, [.agg [int 3, int 0, str ⟨#[]⟩, .loc B 0 l.length l.length 4]]⟩), (B, ⟨4, Tr.avs l⟩), (some b4, ⟨4, [zero4]⟩)]⟩
                refine AWP.seq ?_
                refine AWP.seq ?_
                refine AWP.region ?_
                obtain ⟨hn, hln, hlb, hls, hq1, hq2⟩ := hinv
                have hlc : l.length * costV e ≤ 4 * costV e := Nat.mul_le_mul_right _ (by omega)
                refine Y (mv rfl) rfl ?_
                refine Y (bn rfl rfl BinR.gtr rfl) rfl ?_
                refine AOps.nil ?_
                refine AWP.condT rfl (fun g => ?_) (fun g => ?_)
                · replace g := of_decide_eq_true g
                  have hlc3 : l.length * costV e ≤ 3 * costV e := Nat.mul_le_mul_right _ (by omega)
                  refine AWP.skip ?_
                  refine AWP.seq ?_
                  refine AWP.block ?_
                  refine AWP.prune (tm' := [(0, _), (1, _), (4, _), (5, _), (6, _), (30, _)]) ⟨rfl, rfl, rfl, rfl, rfl, rfl, trivial⟩ ?_
                  refine AWP.drawnM [] [.pure 0, .pure 1, .pure 2, .pure 3, .pure 4, .spine 5 [] [2, 3, 4], .pure 6, .spine 7 [6] [0, 1, 2, 3, 4, 5, 6], .pure 8, .spine 9 [] [0, 1, 2, 3, 4, 5, 6, 7, 8]] mixed rfl rfl rfl rfl rfl ?_
                  refine DM.pure (GX (tm' := [(5, _)]) rfl ⟨rfl, trivial⟩ rfl (DStep.yields (Yields.fieldAddr_ptr fo30_3 rfl)) rfl) ?_
                  refine DM.pure (GX (tm' := [(33, _)]) rfl ⟨rfl, trivial⟩ rfl (DStep.yields (Yields.load_ptr_field (j := 1) kd28 rfl rfl rfl rfl rfl rfl rfl)) rfl) ?_
                  refine DM.pure (GX (tm' := [(0, _)]) rfl ⟨rfl, trivial⟩ rfl (DStep.yields (mv rfl)) rfl) ?_
                  refine DM.pure (GX (tm' := [(1, _)]) rfl ⟨rfl, trivial⟩ rfl (DStep.yields (mv rfl)) rfl) ?_
                  refine DM.pure (GX (tm' := [(36, _)]) rfl ⟨rfl, trivial⟩ rfl (DStep.yields (bn rfl rfl (BinR.subI (by omega) (by omega)) rfl)) rfl) ?_
                  refine DM.sp rfl rfl ?_
                  refine DOpen.nil fun _ _ _ => ?_
                  refine AOps.subT (tm' := [(35, _), (37, _)]) ⟨rfl, rfl, trivial⟩ ?_
                  refine AOps.leads (Leads.same (t := 37) rfl (show int ((d : Int) - 1) = int (e : Int) by rw [he]; congr 2; omega)) ?_
                  refine AOps.callH (.inl trivial) (ih e he q (by omega)) rfl rfl rfl (WkL.refl _) ?_
                  rintro _ _ ⟨⟨vk, vn, vt, vks⟩, q2, w1, w2, w3, w4, rfl, rfl⟩
                  refine AOps.nil ?_
                  refine SpK.mk rfl rfl ?_ ?_
                  · skip
                    refine Stab.skip rfl ?_
                    refine Stab.skip rfl ?_
                    refine Stab.skip rfl ?_
                    refine Stab.skip rfl ?_
                    refine Stab.keep (GX (tm' := [(33, _)]) rfl ⟨rfl, trivial⟩ rfl (DStep.yields (Yields.load_ptr_field (j := 1) kd28 rfl rfl rfl rfl rfl rfl rfl)) rfl) ?_
                    refine Stab.keep (GX (tm' := [(5, _)]) rfl ⟨rfl, trivial⟩ rfl (DStep.yields (Yields.fieldAddr_ptr fo30_3 rfl)) rfl) ?_
                    exact trivial
                  refine DM.pure (GXs (tm' := [(38, _)]) rfl ⟨rfl, trivial⟩ rfl rfl (DStepU.buildSlice sl28 z30 rfl rfl rfl rfl) rfl) ?_
                  refine DM.sp rfl rfl ?_
                  refine DOpen.own rfl fun Bs => ?_
                  refine DOpen.nil fun _ _ _ => ?_
                  refine AOps.subT (tm' := [(34, _), (39, _)]) ⟨rfl, rfl, trivial⟩ ?_
                  refine AOps.appendE (j := 3) sl28 z30 rfl rfl rfl rfl rfl (Tr.avs_length l) rfl (src_row (j2 := 0) rfl rfl rfl) (show l.length + 1 = (l ++ [Tr.mk vk vn vt vks]).length by simp) (avs_snoc l (.mk vk vn vt vks)) (by simp; omega) (by simp; omega) fun Bn => ?_
                  refine AOps.nil ?_
                  refine SpK.mk rfl rfl (Stab.all rfl) ?_
                  refine DM.pure (GX (tm' := [(5, _)]) rfl ⟨rfl, trivial⟩ rfl (DStep.yields (Yields.fieldAddr_ptr fo30_3 rfl)) rfl) ?_
                  refine DM.sp rfl rfl ?_
                  refine DOpen.nil fun _ _ _ => ?_
                  refine AOps.subT (tm' := [(41, _), (40, _)]) ⟨rfl, rfl, trivial⟩ ?_
                  refine AOps.storeField (j := 2) kd28 rfl rfl rfl rfl rfl rfl rfl ?_
                  refine AOps.nil ?_
                  refine SpK.mk0 (Stab.all rfl) ?_
                  refine DM.nil ?_
                  refine AWP.region ?_
                  refine Y (mv rfl) rfl ?_
                  refine Y (bn rfl rfl (BinR.subI (by omega) (by omega)) rfl) rfl ?_
                  refine Y (ass rfl) rfl ?_
                  refine AOps.nil ?_
                  refine ⟨(Bn, l ++ [Tr.mk vk vn vt vks], q2, n - 1), ?_, ?_, ?_⟩
                  · show (n - 1).toNat < n.toNat
                    omega
                  · show 0 ≤ (n - 1) ∧ (l ++ [Tr.mk vk vn vt vks]).length + (n - 1) ≤ 4 ∧ Tr.bnds 1000000 (l ++ [Tr.mk vk vn vt vks]) ∧ sizeTs (l ++ [Tr.mk vk vn vt vks]) ≤ (l ++ [Tr.mk vk vn vt vks]).length * sizeV e ∧ p ≤ q2 ∧ q2 ≤ p + 4 + (l ++ [Tr.mk vk vn vt vks]).length * costV e
                    exact ⟨by omega, by simp; omega, bnds_snoc hlb w1, by rw [sizeTs_snoc, List.length_append, List.length_singleton, Int.natCast_add, Int.add_mul]; simp; omega, by omega, by rw [List.length_append, List.length_singleton, Nat.add_mul]; omega⟩
                  · exact Leads.keepR (KeepR.cons 1 rfl (KeepR.cons 1 rfl (KeepR.cons 1 rfl (KeepR.cons 1 rfl KeepR.nil)))) ⟨rfl, rfl, rfl, rfl, rfl, trivial⟩
                · replace g := of_decide_eq_false g
                  refine AWP.exit ?_
                  refine AWP.seq ?_
                  refine AWP.region ?_
                  refine Y (Yields.load_ptr_agg (j := 1) kd30 rfl rfl rfl rfl) rfl ?_
                  refine AOps.leads (Leads.pull 2 rfl) ?_
                  refine AOps.leads (Leads.freezeT 1 42 (.inl trivial) rfl (fz_node rfl)) ?_
                  have hls2 : (l.length : Int) * sizeV e ≤ 4 * sizeV e := Int.mul_le_mul_of_nonneg_right (by omega) (by omega)
                  refine AOps.store (j := 2) kd30 rfl rfl rfl rfl rfl rfl ?_
                  refine AOps.nil ?_
                  refine AWP.ret ⟨.inl rfl, ?_⟩
                  exact RetH.of (rs := [.cell 4 30]) (vs := [_]) rfl ⟨resOne.cell (j := 2) rfl rfl kd30 rfl rfl rfl, trivial⟩ (KeepR.cons 0 rfl KeepR.nil) (⟨.mk 3 0 ⟨#[]⟩ l, q, ⟨by decide, by omega, hlb⟩, by rw [sizeT, hsd]; push_cast; omega, by omega, by omega, rfl, rfl⟩)
            · replace c4 := of_decide_eq_false c4
              refine AWP.skip ?_
              refine ⟨q0, ?_, ?_⟩
              · show p ≤ q0 ∧ q0 ≤ p + 2
                exact ⟨g3, g4⟩
              · exact Leads.keepR (KeepR.cons 0 rfl (KeepR.cons 0 rfl KeepR.nil)) ⟨rfl, rfl, rfl, trivial⟩
          · skip
            refine AWP.seq ?_
            refine AWP.region ?_
            refine Y (bn rfl rfl BinR.eql rfl) rfl ?_
            refine Y (ass rfl) rfl ?_
            refine AOps.nil ?_
            refine AWP.condT rfl (fun c5 => ?_) (fun c5 => ?_)
            · replace c5 := eq_of_beq c5
              refine AWP.seq ?_
              refine AWP.region ?_
              refine Y (mv rfl) rfl ?_
              refine Y (bn rfl rfl BinR.gtr rfl) rfl ?_
              refine AOps.nil ?_
              refine AWP.condT rfl (fun c6 => ?_) (fun c6 => ?_)
              · replace c6 := of_decide_eq_true c6
                refine AWP.seq ?_
                refine AWP.region ?_
                obtain ⟨e, he⟩ : ∃ e, d = e + 1 := ⟨d - 1, by omega⟩
                have hcd : costV d = 20 + 4 * costV e := by rw [he, costV]
                have hsd : sizeV d = 1 + 4 * sizeV e := by rw [he, sizeV]
                have hse := sizeV_pos e
                refine Y (mv rfl) rfl ?_
                refine AOps.callH (.inl trivial) (anyNameP_AH b code q0 hc (by omega)) rfl rfl rfl (WkL.refl _) ?_
                rintro _ _ ⟨s, q9, j2, j3, j4, rfl, rfl⟩
                have hsn := anyP_size j2
                refine Y (Yields.build pl30 z30 rfl rfl) rfl ?_
                refine AOps.alloc rfl z30 rfl rfl fun b7 => ?_
                refine AOps.store (j := 0) kd30 rfl rfl rfl rfl rfl rfl ?_
                refine AOps.nil ?_
                refine AWP.seq ?_
                refine AWP.seq ?_
                refine AWP.region ?_
                refine Y (mv rfl) rfl ?_
                refine AOps.leads (Leads.pull 1 rfl) ?_
                refine AOps.callH (.inl trivial) (pick_AH b code q9 4 hc (by omega) (by omega) (by omega)) rfl rfl rfl (WkL.refl _) ?_
                rintro _ _ ⟨m, q1, k1, k2, k3, k4, rfl, rfl⟩
                refine Y (ass rfl) rfl ?_
                refine AOps.nil ?_
                refine AWP.leads (Leads.rowWk 1 0 rfl rfl (Wk.agg (ps := [_, _, _, .loc none 0 0 0 4]) ⟨Wk.refl _, Wk.refl _, Wk.refl _, Wk.nilLoc (n := 4), trivial⟩)) ?_
                refine AWP.leads (Leads.row0 4) ?_
                refine AWP.block ?_
                refine AWP.loopV (α := Option Nat × List Tr × Nat × Int) (fun pp : Option Nat × List Tr × Nat × Int => match pp with | (B, l, q, n) => ⟨[(0, .ptr (some b) 0 0 2), (1, int d), (4, .ptr (some b4) 0 0 4), (7, .ptr (some b7) 0 0 4), (8, int n)], [src b code q, (some b7, ⟨4, [.agg [int 4, int 0, str s, .loc B 0 l.length l.length 4]]⟩), (B, ⟨4, Tr.avs l⟩), (some b4, ⟨4, [zero4]⟩)]⟩) (fun pp : Option Nat × List Tr × Nat × Int => match pp with | (B, l, q, n) => -1 ≤ n ∧ l.length + n ≤ 3 ∧ Tr.bnds 1000000 l ∧ sizeTs l ≤ l.length * sizeV e ∧ p ≤ q ∧ q ≤ p + 8 + l.length * costV e) (fun pp : Option Nat × List Tr × Nat × Int => match pp with | (B, l, q, n) => (n + 1).toNat) ((none, [], q1, m)) ?_ ?_ ?_
                · exact Leads.keepR (KeepR.cons 1 rfl (KeepR.cons 1 rfl (KeepR.cons 0 rfl (KeepR.cons 0 rfl KeepR.nil)))) ⟨rfl, rfl, rfl, rfl, rfl, trivial⟩
                · show -1 ≤ m ∧ ([]).length + m ≤ 3 ∧ Tr.bnds 1000000 ([]) ∧ sizeTs ([]) ≤ ([]).length * sizeV e ∧ p ≤ q1 ∧ q1 ≤ p + 8 + ([]).length * costV e
                  exact ⟨by omega, by simp; omega, trivial, by simp [sizeTs], by omega, by simp; omega⟩
                · rintro ⟨B, l, q, n⟩ hinv
                  replace hinv : -1 ≤ n ∧ l.length + n ≤ 3 ∧ Tr.bnds 1000000 l ∧ sizeTs l ≤ l.length * sizeV e ∧ p ≤ q ∧ q ≤ p + 8 + l.length * costV e := hinv
                  show AWP _ _ _ _ ⟨[(0, .ptr (some b) 0 0 2), (1, int d), (4, .ptr (some b4) 0 0 4), (7, .ptr (some b7) 0 0 4), (8, int n)], [src b code q, (some b7, ⟨4, [.agg [int 4, int 0, str s, .loc B 0 l.length l.length 4]]⟩), (B, ⟨4, Tr.avs l⟩), (some b4, ⟨4, [zero4]⟩)]⟩
                  refine AWP.seq ?_
                  refine AWP.seq ?_
                  refine AWP.region ?_
                  obtain ⟨hn, hln, hlb, hls, hq1, hq2⟩ := hinv
                  have hlc : l.length * costV e ≤ 4 * costV e := Nat.mul_le_mul_right _ (by omega)
                  refine Y (mv rfl) rfl ?_
                  refine Y (bn rfl rfl BinR.geq rfl) rfl ?_
                  refine AOps.nil ?_
                  refine AWP.condT rfl (fun g => ?_) (fun g => ?_)
                  · replace g := of_decide_eq_true g
                    have hlc3 : l.length * costV e ≤ 3 * costV e := Nat.mul_le_mul_right _ (by omega)
                    refine AWP.skip ?_
                    refine AWP.seq ?_
                    refine AWP.block ?_
                    refine AWP.prune (tm' := [(0, _), (1, _), (4, _), (7, _), (8, _), (53, _)]) ⟨rfl, rfl, rfl, rfl, rfl, rfl, trivial⟩ ?_
                    refine AWP.drawnM [] [.pure 0, .pure 1, .pure 2, .pure 3, .pure 4, .spine 5 [] [2, 3, 4], .pure 6, .spine 7 [6] [0, 1, 2, 3, 4, 5, 6], .pure 8, .spine 9 [] [0, 1, 2, 3, 4, 5, 6, 7, 8]] mixed rfl rfl rfl rfl rfl ?_
                    refine DM.pure (GX (tm' := [(7, _)]) rfl ⟨rfl, trivial⟩ rfl (DStep.yields (Yields.fieldAddr_ptr fo30_3 rfl)) rfl) ?_
                    refine DM.pure (GX (tm' := [(56, _)]) rfl ⟨rfl, trivial⟩ rfl (DStep.yields (Yields.load_ptr_field (j := 1) kd28 rfl rfl rfl rfl rfl rfl rfl)) rfl) ?_
                    refine DM.pure (GX (tm' := [(0, _)]) rfl ⟨rfl, trivial⟩ rfl (DStep.yields (mv rfl)) rfl) ?_
                    refine DM.pure (GX (tm' := [(1, _)]) rfl ⟨rfl, trivial⟩ rfl (DStep.yields (mv rfl)) rfl) ?_
                    refine DM.pure (GX (tm' := [(59, _)]) rfl ⟨rfl, trivial⟩ rfl (DStep.yields (bn rfl rfl (BinR.subI (by omega) (by omega)) rfl)) rfl) ?_
                    refine DM.sp rfl rfl ?_
                    refine DOpen.nil fun _ _ _ => ?_
                    refine AOps.subT (tm' := [(58, _), (60, _)]) ⟨rfl, rfl, trivial⟩ ?_
                    refine AOps.leads (Leads.same (t := 60) rfl (show int ((d : Int) - 1) = int (e : Int) by rw [he]; congr 2; omega)) ?_
                    refine AOps.callH (.inl trivial) (ih e he q (by omega)) rfl rfl rfl (WkL.refl _) ?_
                    rintro _ _ ⟨⟨vk, vn, vt, vks⟩, q2, w1, w2, w3, w4, rfl, rfl⟩
                    refine AOps.nil ?_
                    refine SpK.mk rfl rfl ?_ ?_
                    · skip
                      refine Stab.skip rfl ?_
                      refine Stab.skip rfl ?_
                      refine Stab.skip rfl ?_
                      refine Stab.skip rfl ?_
                      refine Stab.keep (GX (tm' := [(56, _)]) rfl ⟨rfl, trivial⟩ rfl (DStep.yields (Yields.load_ptr_field (j := 1) kd28 rfl rfl rfl rfl rfl rfl rfl)) rfl) ?_
                      refine Stab.keep (GX (tm' := [(7, _)]) rfl ⟨rfl, trivial⟩ rfl (DStep.yields (Yields.fieldAddr_ptr fo30_3 rfl)) rfl) ?_
                      exact trivial
                    refine DM.pure (GXs (tm' := [(61, _)]) rfl ⟨rfl, trivial⟩ rfl rfl (DStepU.buildSlice sl28 z30 rfl rfl rfl rfl) rfl) ?_
                    refine DM.sp rfl rfl ?_
                    refine DOpen.own rfl fun Bs => ?_
                    refine DOpen.nil fun _ _ _ => ?_
                    refine AOps.subT (tm' := [(57, _), (62, _)]) ⟨rfl, rfl, trivial⟩ ?_
                    refine AOps.appendE (j := 3) sl28 z30 rfl rfl rfl rfl rfl (Tr.avs_length l) rfl (src_row (j2 := 0) rfl rfl rfl) (show l.length + 1 = (l ++ [Tr.mk vk vn vt vks]).length by simp) (avs_snoc l (.mk vk vn vt vks)) (by simp; omega) (by simp; omega) fun Bn => ?_
                    refine AOps.nil ?_
                    refine SpK.mk rfl rfl (Stab.all rfl) ?_
                    refine DM.pure (GX (tm' := [(7, _)]) rfl ⟨rfl, trivial⟩ rfl (DStep.yields (Yields.fieldAddr_ptr fo30_3 rfl)) rfl) ?_
                    refine DM.sp rfl rfl ?_
                    refine DOpen.nil fun _ _ _ => ?_
                    refine AOps.subT (tm' := [(64, _), (63, _)]) ⟨rfl, rfl, trivial⟩ ?_
                    refine AOps.storeField (j := 2) kd28 rfl rfl rfl rfl rfl rfl rfl ?_
                    refine AOps.nil ?_
                    refine SpK.mk0 (Stab.all rfl) ?_
                    refine DM.nil ?_
                    refine AWP.region ?_
                    refine Y (mv rfl) rfl ?_
                    refine Y (bn rfl rfl (BinR.subI (by omega) (by omega)) rfl) rfl ?_
                    refine Y (ass rfl) rfl ?_
                    refine AOps.nil ?_
                    refine ⟨(Bn, l ++ [Tr.mk vk vn vt vks], q2, n - 1), ?_, ?_, ?_⟩
                    · show ((n - 1) + 1).toNat < (n + 1).toNat
                      omega
                    · show -1 ≤ (n - 1) ∧ (l ++ [Tr.mk vk vn vt vks]).length + (n - 1) ≤ 3 ∧ Tr.bnds 1000000 (l ++ [Tr.mk vk vn vt vks]) ∧ sizeTs (l ++ [Tr.mk vk vn vt vks]) ≤ (l ++ [Tr.mk vk vn vt vks]).length * sizeV e ∧ p ≤ q2 ∧ q2 ≤ p + 8 + (l ++ [Tr.mk vk vn vt vks]).length * costV e
                      exact ⟨by omega, by simp; omega, bnds_snoc hlb w1, by rw [sizeTs_snoc, List.length_append, List.length_singleton, Int.natCast_add, Int.add_mul]; simp; omega, by omega, by rw [List.length_append, List.length_singleton, Nat.add_mul]; omega⟩
                    · exact Leads.keepR (KeepR.cons 1 rfl (KeepR.cons 1 rfl (KeepR.cons 1 rfl (KeepR.cons 1 rfl KeepR.nil)))) ⟨rfl, rfl, rfl, rfl, rfl, trivial⟩
                  · replace g := of_decide_eq_false g
                    refine AWP.exit ?_
                    refine AWP.seq ?_
                    refine AWP.region ?_
                    refine Y (Yields.load_ptr_agg (j := 1) kd30 rfl rfl rfl rfl) rfl ?_
                    refine AOps.leads (Leads.pull 2 rfl) ?_
                    refine AOps.leads (Leads.freezeT 1 65 (.inl trivial) rfl (fz_node rfl)) ?_
                    have hls2 : (l.length : Int) * sizeV e ≤ 4 * sizeV e := Int.mul_le_mul_of_nonneg_right (by omega) (by omega)
                    refine AOps.store (j := 2) kd30 rfl rfl rfl rfl rfl rfl ?_
                    refine AOps.nil ?_
                    refine AWP.ret ⟨.inl rfl, ?_⟩
                    exact RetH.of (rs := [.cell 4 30]) (vs := [_]) rfl ⟨resOne.cell (j := 2) rfl rfl kd30 rfl rfl rfl, trivial⟩ (KeepR.cons 0 rfl KeepR.nil) (⟨.mk 4 0 s l, q, ⟨by omega, by omega, hlb⟩, by rw [sizeT, hsd]; push_cast; omega, by omega, by omega, rfl, rfl⟩)
              · replace c6 := of_decide_eq_false c6
                refine AWP.skip ?_
                refine ⟨q0, ?_, ?_⟩
                · show p ≤ q0 ∧ q0 ≤ p + 2
                  exact ⟨g3, g4⟩
                · exact Leads.keepR (KeepR.cons 0 rfl (KeepR.cons 0 rfl KeepR.nil)) ⟨rfl, rfl, rfl, trivial⟩
            · replace c5 := ne_of_beq_false c5
              refine AWP.skip ?_
              refine ⟨q0, ?_, ?_⟩
              · show p ≤ q0 ∧ q0 ≤ p + 2
                exact ⟨g3, g4⟩
              · exact Leads.keepR (KeepR.cons 0 rfl (KeepR.cons 0 rfl KeepR.nil)) ⟨rfl, rfl, rfl, trivial⟩
  · rintro q hinv
    refine AWP.seq ?_
    refine AWP.seq ?_
    refine AWP.region ?_
    obtain ⟨hq1, hq2⟩ := hinv
    refine Y (mv rfl) rfl ?_
    refine AOps.callH (.inl trivial) (rare_AH b code q hc (by omega)) rfl rfl rfl (WkL.refl _) ?_
    rintro _ _ ⟨m, q1, h5, h6, rfl, rfl⟩
    refine AOps.nil ?_
    refine AWP.condT rfl (fun c7 => ?_) (fun c7 => ?_)
    · skip
      refine AWP.seq ?_
      refine AWP.region ?_
      refine Y (mv rfl) rfl ?_
      refine AOps.callH (.inl trivial) (pick_AH b code q1 7 hc (by omega) (by omega) (by omega)) rfl rfl rfl (WkL.refl _) ?_
      rintro _ _ ⟨m1, q2, k1, k2, k3, k4, rfl, rfl⟩
      refine Y (mv rfl) rfl ?_
      refine AOps.callH (.inl trivial) (pick_AH b code q2 12 hc (by omega) (by omega) (by omega)) rfl rfl rfl (WkL.refl _) ?_
      rintro _ _ ⟨m2, q3, j1, j2, j3, j4, rfl, rfl⟩
      refine Y (bn rfl rfl (BinR.subI (by omega) (by omega)) rfl) rfl ?_
      refine Y (mv rfl) rfl ?_
      refine AOps.buildSlice sl41 z9 rfl rfl rfl rfl rfl fun l1 => ?_
      refine AOps.leads (Leads.freezeT 1 74 (.inl trivial) rfl (fz_strs oddL rfl)) ?_
      refine AOps.callH (.inl trivial) (one_AH b code q3 30 oddL hc (by omega) (by decide) (by decide)) rfl rfl rfl (WkL.refl _) ?_
      rintro _ _ ⟨s, q4, h7, h8, h9, rfl, rfl⟩
      refine Y (Yields.build pl30 z30 rfl rfl) rfl ?_
      refine AOps.store (j := 1) kd30 rfl rfl rfl rfl rfl rfl ?_
      refine AOps.nil ?_
      refine AWP.leads (Leads.rowWk 1 0 rfl rfl (wk_leaf _ _ _)) ?_
      refine AWP.ret ⟨.inl rfl, ?_⟩
      exact RetH.of (rs := [.cell 4 30]) (vs := [_]) rfl ⟨resOne.cell (j := 1) rfl rfl kd30 rfl rfl rfl, trivial⟩ (KeepR.cons 0 rfl KeepR.nil) (⟨.mk m1 (m2 - 2) s [], q4, leaf_bnd _ _ _ h7, leaf_size _ _ _ _, by omega, by omega, rfl, rfl⟩)
    · skip
      refine AWP.skip ?_
      refine AWP.seq ?_
      refine AWP.region ?_
      refine AOps.buildSlice sl55 z3 rfl rfl rfl rfl rfl fun l2 => ?_
      refine Y (mv rfl) rfl ?_
      refine AOps.leads (Leads.rowEq 0 rfl (show _ = ints anyN from rfl)) ?_
      refine AOps.leads (Leads.pull 1 rfl) ?_
      refine AOps.callH (.inl trivial) (pick_AH b code q1 6 hc (by omega) (by omega) (by omega)) rfl rfl rfl (WkL.refl _) ?_
      rintro _ _ ⟨m1, q2, k1, k2, k3, k4, rfl, rfl⟩
      obtain ⟨x, hx, _⟩ := drop_at (l := anyN) (i := m1.toNat) (by show m1.toNat < 6; omega)
      refine Y (Yields.idx_locN sl55 rfl rfl (j := m1.toNat) (by omega) (by omega)) rfl ?_
      refine Y (Yields.load_ptr_one (j := 1) kd3 rfl rfl (by rw [Nat.zero_add]; exact ints_at hx) rfl rfl) rfl ?_
      refine Y (bn rfl rfl (BinR.rem (by decide)) rfl) rfl ?_
      refine Y (Yields.build pl30 z30 rfl rfl) rfl ?_
      refine AOps.store (j := 2) kd30 rfl rfl rfl rfl rfl rfl ?_
      refine AOps.nil ?_
      refine AWP.leads (Leads.rowWk 2 0 rfl rfl (wk_leaf _ _ _)) ?_
      refine AWP.ret ⟨.inl rfl, ?_⟩
      exact RetH.of (rs := [.cell 4 30]) (vs := [_]) rfl ⟨resOne.cell (j := 2) rfl rfl kd30 rfl rfl rfl, trivial⟩ (KeepR.cons 0 rfl KeepR.nil) (⟨.mk 0 (x.tmod 10000) ⟨#[]⟩ [], q2, leaf_bnd _ _ _ (by decide), leaf_size _ _ _ _, by omega, by omega, rfl, rfl⟩)
theorem anyValue_AH : ∀ (d : Nat) (b : Nat) (code : List UInt8) (p : Nat) (hd : d ≤ 6) (hc : code.length ≤ 1048576) (hp : p + costV d ≤ 1000000), FnH 29 [src b code p] [.ptr (some b) 0 0 2, int d] (srcV (sizeV d) b code p (costV d))
  | 0, b, code, p, hd, hc, hp => anyValueW_AH 0 b code p hd hc hp (fun e h => by omega)
  | d + 1, b, code, p, hd, hc, hp => anyValueW_AH (d + 1) b code p hd hc hp (fun e h p' hp' => by
    have : e = d := by omega
    subst this
    exact anyValue_AH e b code p' (by omega) hc hp')
end Go.Proofs.Ytnmodhbchfkfbaa
