/- Arguments that are trees, off the reading of the arguments. -/
import Derived.SizedLaws
import Derived.SliceStrings
import Derived.Test.YtccdgppplkfjfaaDoorLift
import Derived.Test.YtccdgppplkfjfaaDoorTree
import Derived.ChangeArms
namespace Go.Proofs.YtccdgppplkfjfaaDoor
open Go Go.Ax Go.Proofs Go.RowKit
set_option linter.unusedVariables false
set_option linter.unusedSimpArgs false

theorem cell_add {w : World} {a : Addr} {m : Nat} {v : Value} (h : w.cell? (a.add m) = some v) : w.cell? ⟨a.block, a.off + m, none⟩ = some v := by
  by_cases hm : m = 0
  · subst hm
    have e : a.add 0 = a := by simp [Addr.add]
    rw [e] at h
    obtain ⟨b, o, sp⟩ := a
    cases sp with
    | none => exact h
    | some x =>
      exfalso
      unfold World.cell? at h
      simp only at h
      split at h <;> simp at h
  · have e : a.add m = ⟨a.block, a.off + m, none⟩ := by simp [Addr.add, hm]
    rwa [e] at h
theorem add_add (a : Addr) (m n : Nat) : (a.add m).add n = a.add (m + n) := by
  unfold Addr.add
  by_cases hm : m = 0
  · subst hm; simp
  · by_cases hn : n = 0
    · subst hn; simp
    · simp [hm, hn, Nat.add_assoc]
theorem lt_of_cell {w : World} {b o : Nat} {v : Value} (h : w.cell? ⟨b, o, none⟩ = some v) : b < w.heap.size := by
  rcases Nat.lt_or_ge b w.heap.size with h' | h'
  · exact h'
  · have : w.heap[b]? = none := Array.getElem?_eq_none h'
    simp [World.cell?, this] at h
theorem spot_none {w : World} {a : Addr} {v : Value} (h : w.cell? a = some v) : a = ⟨a.block, a.off, none⟩ := by
  obtain ⟨b, o, sp⟩ := a
  cases sp with
  | none => rfl
  | some x =>
    exfalso
    unfold World.cell? at h
    simp only at h
    split at h <;> simp at h

section
variable {H : Type} {enc : TypeId × Value → H} {P : Program} {w : World}
theorem tree_of {T S I X : TypeId} {f0 f1 f2 f3 : Field} (hT : P.underlying T = some (.struct #[f0, f1, f2, f3])) (t0 : f0.type = I) (t1 : f1.type = I) (t2 : f2.type = X) (t3 : f3.type = S)
    (o0 : f0.offset = 0) (o1 : f1.offset = 1) (o2 : f2.offset = 2) (o3 : f3.offset = 3) (hI : P.underlying I = some (.int .i64)) (hX : P.underlying X = some .string) (hS : P.underlying S = some (.slice T))
    (c4 : P.cellsOf T = 4) (cI : P.cellsOf I = 1) (cX : P.cellsOf X = 1) (cS : P.cellsOf S = 1) :
    ∀ (fuel : Nat) (cs : List Value) (x : DataW H × List MemPlace), DataW.trod enc P w 0 (fun _ => true) true fuel T cs = some x →
      ∃ k : Tr, k.bnd 9223372036854775807 ∧ Rep w (fun b => b < w.heap.size) k.av cs [] ∧ cs.length = 4 ∧ ∀ v ∈ cs, v.oneCell' = true := by
  intro fuel
  induction fuel using Nat.strongRecOn with
  | _ fuel ih =>
    intro cs x h
    obtain ⟨xs, n, rfl, rfl, hl, hlen, hf⟩ := DataW.trod_struct hT h
    rw [c4] at hl
    match cs, hl with
    | [v0, v1, v2, v3], _ =>
      have g0 := hf 0 f0 rfl
      have g1 := hf 1 f1 rfl
      have g2 := hf 2 f2 rfl
      have g3 := hf 3 f3 rfl
      have hx : ∀ i, i < 4 → ∃ y, xs[i]? = some y := fun i hi => ⟨xs[i]'(by rw [hlen]; exact hi), List.getElem?_eq_getElem _⟩
      obtain ⟨y0, e0⟩ := hx 0 (by omega)
      obtain ⟨y1, e1⟩ := hx 1 (by omega)
      obtain ⟨y2, e2⟩ := hx 2 (by omega)
      obtain ⟨y3, e3⟩ := hx 3 (by omega)
      rw [e0, t0, o0, cI] at g0
      rw [e1, t1, o1, cI] at g1
      rw [e2, t2, o2, cX] at g2
      rw [e3, t3, o3, cS] at g3
      simp at g0 g1 g2 g3
      obtain ⟨n0, q0, -, -⟩ := DataW.trod_int hI g0
      obtain ⟨n1, q1, -, -⟩ := DataW.trod_int hI g1
      obtain ⟨s, q2, -, hs⟩ := DataW.trod_string hX g2
      simp at q0 q1 q2
      subst q0; subst q1; subst q2
      have hs' : s.size ≤ 9223372036854775807 := by unfold maxLen at hs; omega
      have fin : ∀ ks : List Tr, Tr.bnds 9223372036854775807 ks → ks.length ≤ 9223372036854775807 → Rep w (fun b => b < w.heap.size) (.ro 4 (Tr.avs ks) [] false) [v3] [] → v3.oneCell' = true →
          ∃ k : Tr, k.bnd 9223372036854775807 ∧ Rep w (fun b => b < w.heap.size) k.av [.int .i64 n0, .int .i64 n1, .string s, v3] [] ∧ [Value.int .i64 n0, .int .i64 n1, .string s, v3].length = 4 ∧ ∀ v ∈ [Value.int .i64 n0, .int .i64 n1, .string s, v3], v.oneCell' = true := by
        intro ks hb hn hr h1
        refine ⟨.mk n0 n1 s ks, ⟨hs', hn, hb⟩, ?_, rfl, ?_⟩
        · simp only [Tr.av, Rep, RepL]
          refine ⟨[_], _, [], [], rfl, rfl, rfl, ?_, ⟨rfl, rfl, rfl⟩, [_], _, [], [], rfl, rfl, rfl, ?_, ⟨rfl, rfl, rfl⟩, [_], _, [], [], rfl, rfl, rfl, ?_, ⟨rfl, rfl, rfl⟩, [_], [], [], [], rfl, rfl, rfl, ?_, ?_, rfl, rfl⟩
          · simp [Value.oneCell']
          · simp [Value.oneCell']
          · simp [Value.oneCell']
          · simpa using h1
          · simp only [Rep, RepL] at hr; exact ⟨rfl, hr.2⟩
        · intro v hv
          simp at hv
          rcases hv with rfl | rfl | rfl | rfl <;> first | rfl | exact h1
      rcases DataW.trod_slice hS g3 with ⟨q3, -⟩ | ⟨a, len, cap, elems, rest, m, rfl, q3, -, hb, hlc, hcap, hel, hes, -, -⟩
      · simp at q3
        subst q3
        refine fin [] trivial (by simp) ?_ rfl
        simp only [Rep]
        exact ⟨trivial, none, 0, [], [], rfl, by simp [Tr.avs], by simp, by simp [RepL, Tr.avs], by simp [RepL], .inl rfl⟩
      · simp at q3
        subst q3
        have key : ∀ k, k ≤ len → ∃ (ks : List Tr) (c : List Value), ks.length = k ∧ Tr.bnds 9223372036854775807 ks ∧ RepL w (fun b => b < w.heap.size) 4 (Tr.avs ks) c [] ∧ c.length = k * 4 ∧ ∀ j v, c[j]? = some v → w.cell? (a.add j) = some v := by
          intro k
          induction k with
          | zero => intro _; exact ⟨[], [], rfl, trivial, by simp [RepL, Tr.avs], rfl, by simp⟩
          | succ k ihk =>
            intro hk
            obtain ⟨ks, c, h1, h2, h3, h4, h5⟩ := ihk (by omega)
            have he := hes k (by omega)
            have : ∃ y, elems[k]? = some y := ⟨elems[k]'(by omega), List.getElem?_eq_getElem _⟩
            obtain ⟨y, hy⟩ := this
            rw [hy, c4] at he
            obtain ⟨ci, hc1, hc2⟩ := Option.bind_eq_some_iff.1 he
            obtain ⟨kid, r1, r2, r3, r4⟩ := ih m (by omega) ci y hc2
            obtain ⟨-, -, hcell⟩ := World.cells?_some hc1
            refine ⟨ks ++ [kid], c ++ ci, by simp [h1], ?_, ?_, by simp [h4, r3]; omega, ?_⟩
            · have : ∀ l : List Tr, Tr.bnds 9223372036854775807 l → Tr.bnds 9223372036854775807 (l ++ [kid]) := by
                intro l
                induction l with
                | nil => intro _; exact ⟨r1, trivial⟩
                | cons b l ihl => intro hb; exact ⟨hb.1, ihl hb.2⟩
              exact this ks h2
            · have e : Tr.avs (ks ++ [kid]) = Tr.avs ks ++ [kid.av] := by
                clear h1 h2 h3 h4 h5
                induction ks with
                | nil => rfl
                | cons b l ihl => simp only [List.cons_append, Tr.avs, ihl]
              rw [e]
              refine h3.append ?_
              simp only [RepL]
              exact ⟨ci, [], [], [], by simp, rfl, r3, r4, r2, rfl, rfl⟩
            · intro j v hj
              rcases Nat.lt_or_ge j c.length with hjl | hjl
              · rw [List.getElem?_append_left hjl] at hj
                exact h5 j v hj
              · rw [List.getElem?_append_right hjl] at hj
                have hj4 : j - c.length < 4 := by
                  have := (List.getElem?_eq_some_iff.1 hj).1
                  omega
                have := hcell (j - c.length) hj4
                rw [hj, add_add] at this
                rw [show j = k * 4 + (j - c.length) by omega]
                exact this
        obtain ⟨ks, c, h1, h2, h3, h4, h5⟩ := key len (Nat.le_refl _)
        have hlen' : ks.length ≤ 9223372036854775807 := by unfold maxLen at hcap; omega
        refine fin ks h2 hlen' ?_ rfl
        simp only [Rep]
        refine ⟨trivial, some a, cap, c, [], by rw [Tr.avs_length, h1], by rw [Tr.avs_length, h1]; simpa using hlc, by simp, h3, by simp [RepL], ?_⟩
        cases hc : c with
        | nil => exact .inl rfl
        | cons v c' =>
          right
          have h0 := h5 0 v (by rw [hc]; rfl)
          have e0 : a.add 0 = a := by simp [Addr.add]
          rw [e0] at h0
          have ha := spot_none h0
          refine ⟨a.block, a.off, by rw [← ha], ?_, fun j hj => ?_⟩
          · rw [ha] at h0; exact lt_of_cell h0
          · have := h5 j _ (by rw [hc, ← List.append_nil (v :: c')]; exact List.getElem?_eq_getElem hj)
            exact cell_add this
theorem trod_tree {T S I X : TypeId} {f0 f1 f2 f3 : Field} (hT : P.underlying T = some (.struct #[f0, f1, f2, f3])) (t0 : f0.type = I) (t1 : f1.type = I) (t2 : f2.type = X) (t3 : f3.type = S)
    (o0 : f0.offset = 0) (o1 : f1.offset = 1) (o2 : f2.offset = 2) (o3 : f3.offset = 3) (hI : P.underlying I = some (.int .i64)) (hX : P.underlying X = some .string) (hS : P.underlying S = some (.slice T))
    (c4 : P.cellsOf T = 4) (cI : P.cellsOf I = 1) (cX : P.cellsOf X = 1) (cS : P.cellsOf S = 1) {v : Value} {d : DataW H} {ps : List MemPlace} (h : DataW.Trod enc P w 0 (fun _ => true) true T v d ps) :
    ∃ k : Tr, k.bnd 9223372036854775807 ∧ RepV w (fun b => b < w.heap.size) k.av v [] := by
  obtain ⟨fuel, h⟩ := h
  obtain ⟨k, h1, h2, h3, h4⟩ := tree_of hT t0 t1 t2 t3 o0 o1 o2 o3 hI hX hS c4 cI cX cS fuel _ _ h
  refine ⟨k, h1, v.cells.toList, h2, ?_⟩
  have : wrapV k.av v.cells.toList = .agg v.cells.toList.toArray := by cases k; rfl
  rw [this]
  cases v with
  | agg cs => simp [Value.cells]
  | _ => simp [Value.cells] at h3
theorem text_of {T X : TypeId} {f0 f1 f2 f3 : Field} (hT : P.underlying T = some (.struct #[f0, f1, f2, f3])) (t2 : f2.type = X) (o2 : f2.offset = 2) (hX : P.underlying X = some .string) (cX : P.cellsOf X = 1)
    {v : Value} {d : DataW H} {ps : List MemPlace} (h : DataW.Trod enc P w 0 (fun _ => true) true T v d ps) {k : Tr} {ok : Nat → Prop} (hr : RepV w ok k.av v []) {M : Nat} (hw : ∀ n ∈ d.weights P T, n ≤ M) : k.text.size ≤ M := by
  obtain ⟨fuel, h⟩ := h
  obtain ⟨xs, n, rfl, e, hl, hlen, hf⟩ := DataW.trod_struct hT h
  simp only [Prod.mk.injEq] at e
  obtain ⟨rfl, rfl⟩ := e
  have g2 := hf 2 f2 rfl
  obtain ⟨y2, e2⟩ : ∃ y, xs[2]? = some y := ⟨xs[2]'(by rw [hlen]; simp), List.getElem?_eq_getElem _⟩
  rw [e2, t2, o2, cX] at g2
  obtain ⟨s, q2, q3, hs⟩ := DataW.trod_string hX g2
  obtain ⟨kd, nm, t, ks⟩ := k
  obtain ⟨cs, r1, r2⟩ := hr
  have hcs : v.cells.toList = cs := by rw [r2]; simp [Tr.av, wrapV, Value.cells]
  rw [hcs] at q2
  simp only [Tr.av, Rep, RepL] at r1
  obtain ⟨c1, c2, F1, F2, rfl, -, l1, -, ⟨-, rfl, -⟩, c3, c4, F3, F4, rfl, -, l2, -, ⟨-, rfl, -⟩, c5, c6, F5, F6, rfl, -, l3, -, ⟨-, rfl, -⟩, _⟩ := r1
  simp at q2
  subst q2
  have hm := DataW.weights_mem_each (P := P) (ts := [f0.type, f1.type, f2.type, f3.type]) (ds := xs.map (·.1)) (j := 2) (t := X) (d := .lit (.string t.data.toList)) (by simp [t2]) (by rw [List.getElem?_map, e2, q3]; rfl) t.data.toList.length (by simp [DataW.weights])
  have := hw t.data.toList.length (by
    simp only [DataW.weights, hT]
    simpa using hm)
  simpa [Tr.text] using this
end
theorem slice_vals {w : World} {a : Addr} {len cap : Nat} {vals : List Value} (hl : vals.length = len) (hc : len ≤ cap) (ho : ∀ x ∈ vals, x.oneCell' = true) (hcell : ∀ i u, vals[i]? = some u → w.cell? (a.add i) = some u) :
    RepV w (fun b => b < w.heap.size) (.ro 1 (vals.map .val) [] false) (.slice (some a) len cap) [] := by
  subst hl
  refine ⟨[.slice (some a) vals.length cap], ?_, rfl⟩
  simp only [Rep]
  refine ⟨trivial, some a, cap, vals, [], by simp, by simpa using hc, by simp, repL_vals w _ vals (by rw [List.all_eq_true]; exact ho), by simp [RepL], ?_⟩
  cases vals with
  | nil => exact .inl rfl
  | cons v l =>
    right
    have h0 := hcell 0 v rfl
    have e0 : a.add 0 = a := by simp [Addr.add]
    rw [e0] at h0
    have ha := spot_none h0
    refine ⟨a.block, a.off, by rw [← ha], lt_of_cell (by rw [ha] at h0; exact h0), fun j hj => ?_⟩
    have := hcell j _ (List.getElem?_eq_getElem (by simpa using hj))
    simp only [List.append_nil]
    exact cell_add this
theorem slice_none {w : World} {ok : Nat → Prop} {n : Nat} : RepV w ok (.ro n [] [] false) (.slice none 0 0) [] :=
  ⟨[.slice none 0 0], by simp only [Rep]; exact ⟨trivial, none, 0, [], [], rfl, by simp, by simp, by simp [RepL], by simp [RepL], .inl rfl⟩, rfl⟩
theorem open_ints_ro {H : Type} {enc : TypeId × Value → H} {P : Program} {w : World} {T e : TypeId} {k : IntKind} (hT : P.underlying T = some (.slice e)) (he : P.underlying e = some (.int k)) (hc : P.cellsOf e = 1) {A : Option Addr} {len cap : Nat} {d : DataW H} {ps : List MemPlace}
    (h : DataW.Trod enc P w 0 (fun _ => true) true T (.slice A len cap) d ps) : ∃ zs : List Int, (∀ n ∈ zs, (Lit.int k n).wf = true) ∧ zs.length = len ∧ (∀ M, (∀ n ∈ d.weights P T, n ≤ M) → zs.length * P.bytesOf e ≤ M) ∧ RepV w (fun b => b < w.heap.size) (.ro 1 (zs.map fun n => .val (.int k n)) [] false) (.slice A len cap) [] := by
  obtain ⟨fuel, h⟩ := h
  rcases Go.ChangeShapes.open_ints hT he hc h with ⟨hcs, -⟩ | ⟨a, len', cap', zs, hcs, -, hl, hm, hz, hx, hcell, hw⟩
  · simp [Value.cells] at hcs
    obtain ⟨rfl, rfl, rfl⟩ := hcs
    exact ⟨[], by simp, rfl, fun M _ => by simp, slice_none⟩
  · simp [Value.cells] at hcs
    obtain ⟨rfl, rfl, rfl⟩ := hcs
    have hzl : zs.length = cap := by simpa using hz
    refine ⟨zs.take len, fun n hn => hw n (List.mem_of_mem_take hn), by rw [List.length_take]; omega, fun M hM => ?_, ?_⟩
    · simp only [Prod.mk.injEq] at hx
      have := hM _ (by rw [hx.1]; simp only [DataW.weights, hT]; exact List.mem_cons_self ..)
      simp only [Go.ChangeShapes.lits, List.length_map] at this
      exact Nat.le_trans (Nat.mul_le_mul_right _ (by omega)) this
    have := slice_vals (w := w) (a := a) (len := len) (cap := cap) (vals := (zs.take len).map (.int k)) (by rw [List.length_map, List.length_take]; omega) hl (fun x hx => by obtain ⟨n, _, rfl⟩ := List.mem_map.1 hx; rfl) (fun i u hu => by
      rw [List.getElem?_map, List.getElem?_take] at hu
      split at hu
      · rename_i hil
        have := hcell i (by omega)
        rw [this, List.getD_eq_getElem?_getD]
        cases hq : zs[i]? with
        | none => rw [hq] at hu; simp at hu
        | some n => rw [hq] at hu; simp at hu; simp [← hu]
      · simp at hu)
    simpa [List.map_map, Function.comp_def] using this
theorem open_bytes_ro {H : Type} {enc : TypeId × Value → H} {P : Program} {w : World} {T e : TypeId} (hT : P.underlying T = some (.slice e)) (he : P.underlying e = some (.int .u8)) (hc : P.cellsOf e = 1) {A : Option Addr} {len cap : Nat} {d : DataW H} {ps : List MemPlace}
    (h : DataW.Trod enc P w 0 (fun _ => true) true T (.slice A len cap) d ps) : ∃ l : List UInt8, RepV w (fun b => b < w.heap.size) (.ro 1 (bytesV l) [] false) (.slice A len cap) [] := by
  obtain ⟨zs, h1, -, -, h2⟩ := open_ints_ro hT he hc h
  refine ⟨zs.map fun n => UInt8.ofNat n.toNat, ?_⟩
  have e : bytesV (zs.map fun n => UInt8.ofNat n.toNat) = zs.map fun n => .val (.int .u8 n) := by
    unfold bytesV
    rw [List.map_map]
    refine List.map_congr_left fun n hn => ?_
    have := h1 n hn
    simp only [Lit.wf, Bool.and_eq_true, decide_eq_true_eq] at this
    have h0 : (0 : Int) ≤ n := this.1
    have h9 : n ≤ 255 := this.2
    show AV.val (.int .u8 ((UInt8.ofNat n.toNat).toNat : Int)) = AV.val (.int .u8 n)
    rw [UInt8.toNat_ofNat', Nat.mod_eq_of_lt (by omega)]
    congr 2
    omega
  rw [e]; exact h2
theorem open_strings_ro {H : Type} {enc : TypeId × Value → H} {P : Program} {w : World} {T e : TypeId} (hT : P.underlying T = some (.slice e)) (he : P.underlying e = some .string) (hc : P.cellsOf e = 1) {A : Option Addr} {len cap : Nat} {d : DataW H} {ps : List MemPlace}
    (h : DataW.Trod enc P w 0 (fun _ => true) true T (.slice A len cap) d ps) : ∃ l : List ByteArray, (∀ s ∈ l, s.size ≤ 9223372036854775807) ∧ l.length = len ∧ (∀ M, (∀ n ∈ d.weights P T, n ≤ M) → l.length * P.bytesOf e ≤ M) ∧ RepV w (fun b => b < w.heap.size) (.ro 1 (strs l) [] false) (.slice A len cap) [] := by
  obtain ⟨fuel, h⟩ := h
  rcases Go.ChangeShapes.open_strings hT he hc h with ⟨hcs, -⟩ | ⟨a, len', cap', zs, hcs, -, hl, hm, hz, hx, hcell, hw⟩
  · simp [Value.cells] at hcs
    obtain ⟨rfl, rfl, rfl⟩ := hcs
    exact ⟨[], by simp, rfl, fun M _ => by simp, slice_none⟩
  · simp [Value.cells] at hcs
    obtain ⟨rfl, rfl, rfl⟩ := hcs
    have hzl : zs.length = cap := by simpa using hz
    refine ⟨zs.take len, fun n hn => by have := hw n (List.mem_of_mem_take hn); unfold maxLen at this; omega, by rw [List.length_take]; omega, fun M hM => ?_, ?_⟩
    · simp only [Prod.mk.injEq] at hx
      have := hM _ (by rw [hx.1]; simp only [DataW.weights, hT]; exact List.mem_cons_self ..)
      simp only [Go.ChangeShapes.strs, List.length_map] at this
      exact Nat.le_trans (Nat.mul_le_mul_right _ (by omega)) this
    have := slice_vals (w := w) (a := a) (len := len) (cap := cap) (vals := (zs.take len).map .string) (by rw [List.length_map, List.length_take]; omega) hl (fun x hx => by obtain ⟨n, _, rfl⟩ := List.mem_map.1 hx; rfl) (fun i u hu => by
      rw [List.getElem?_map, List.getElem?_take] at hu
      split at hu
      · rename_i hil
        have := hcell i (by omega)
        rw [this, List.getD_eq_getElem?_getD]
        cases hq : zs[i]? with
        | none => rw [hq] at hu; simp at hu
        | some n => rw [hq] at hu; simp at hu; simp [← hu]
      · simp at hu)
    simpa [List.map_map, Function.comp_def, Go.Proofs.YtccdgppplkfjfaaDoor.strs] using this
theorem repT_of {w : World} {ok : Nat → Prop} {a : AV} {v : Value} {ps : List AV} {vs : List Value} (h : RepV w ok a v []) (h' : RepT w ok ps vs []) : RepT w ok (a :: ps) (v :: vs) [] := by
  obtain ⟨cs, h1, h2⟩ := h
  simp only [RepT]
  exact ⟨_, _, cs, [], [], rfl, rfl, h1, h2, h'⟩
theorem open_tree_Value {H : Type} {enc : TypeId × Value → H} {w : World} {v : Value} {d : DataW H} {ps : List MemPlace} (h : DataW.Trod enc Tryd.prog w 0 (fun _ => true) true 35 v d ps) :
    ∃ k : Tr, k.bnd 9223372036854775807 ∧ RepV w (fun b => b < w.heap.size) k.av v [] :=
  trod_tree Tryd.underlying35 rfl rfl rfl rfl rfl rfl rfl rfl Tryd.underlying3 Tryd.underlying9 Tryd.underlying33 (by kernel_rfl) (by kernel_rfl) (by kernel_rfl) (by kernel_rfl) h
theorem open_text_Value {H : Type} {enc : TypeId × Value → H} {w : World} {v : Value} {d : DataW H} {ps : List MemPlace} (h : DataW.Trod enc Tryd.prog w 0 (fun _ => true) true 35 v d ps) {k : Tr} {ok : Nat → Prop} (hr : RepV w ok k.av v []) {M : Nat} (hw : ∀ n ∈ d.weights Tryd.prog 35, n ≤ M) : k.text.size ≤ M :=
  text_of Tryd.underlying35 rfl rfl Tryd.underlying9 (by kernel_rfl) h hr hw
theorem open_tree_Expr {H : Type} {enc : TypeId × Value → H} {w : World} {v : Value} {d : DataW H} {ps : List MemPlace} (h : DataW.Trod enc Tryd.prog w 0 (fun _ => true) true 24 v d ps) :
    ∃ k : Tr, k.bnd 9223372036854775807 ∧ RepV w (fun b => b < w.heap.size) k.av v [] :=
  trod_tree Tryd.underlying24 rfl rfl rfl rfl rfl rfl rfl rfl Tryd.underlying3 Tryd.underlying9 Tryd.underlying22 (by kernel_rfl) (by kernel_rfl) (by kernel_rfl) (by kernel_rfl) h
theorem open_text_Expr {H : Type} {enc : TypeId × Value → H} {w : World} {v : Value} {d : DataW H} {ps : List MemPlace} (h : DataW.Trod enc Tryd.prog w 0 (fun _ => true) true 24 v d ps) {k : Tr} {ok : Nat → Prop} (hr : RepV w ok k.av v []) {M : Nat} (hw : ∀ n ∈ d.weights Tryd.prog 24, n ≤ M) : k.text.size ≤ M :=
  text_of Tryd.underlying24 rfl rfl Tryd.underlying9 (by kernel_rfl) h hr hw
end Go.Proofs.YtccdgppplkfjfaaDoor
