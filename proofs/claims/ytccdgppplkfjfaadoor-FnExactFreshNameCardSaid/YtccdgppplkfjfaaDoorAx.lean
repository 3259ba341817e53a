import Derived.Below
import Derived.Calls
import Derived.Orders
import Derived.Laws.Sem
import Derived.WalkKit
import Derived.Laws.MakeOwn
import Derived.Laws.Slices
set_option linter.unusedVariables false
set_option linter.unusedSimpArgs false

namespace Go.Ax
inductive AV where
  /-- nothing -/
  | undef
  /-- the value itself (a number, a truth, a string, a nil pointer, the nil slice ..) -/
  | val (v : Value)
  /-- a pointer into a row of the call's own: block, element, cell in the element, cells of an element -/
  | ptr (b : Option Nat) (i f n : Nat)
  /-- a pointer into memory that is only read: the elements that lie there -/
  | rop (n : Nat) (xs : List AV) (i f : Nat)
  /-- at a call's border: a pointer into a row that is handed over -/
  | optr (n : Nat) (xs : List AV) (i f : Nat)
  /-- a slice of a row of the call's own: block (none: the nil slice), first element, length, what its capacity is at least, cells of an element -/
  | loc (b : Option Nat) (off len k n : Nat)
  /-- a slice that is only read: cells of an element, elements, what lies behind them within the capacity; whether the capacity ends there -/
  | ro (n : Nat) (xs sp : List AV) (c : Bool)
  /-- inside a row, and at a call's border: a slice that is the only one over its row -/
  | own (n : Nat) (xs sp : List AV)
  /-- a struct: its cells -/
  | agg (cs : List AV)
  /-- several results -/
  | tup (vs : List AV)
  /-- a function with what it has captured -/
  | fn (f : FuncId) (caps : List AV)
  deriving Inhabited
def wrapV : AV → List Value → Value
  | .agg _, cs => .agg cs.toArray
  | _, cs => cs.headD undef
def RoAt (w : World) (ok : Nat → Prop) (b o : Nat) (cells : List Value) : Prop :=
  ok b ∧ ∀ j (h : j < cells.length), w.cell? ⟨b, o + j, none⟩ = some cells[j]
def BlkAt (w : World) (b : Nat) (cells : List Value) (m : Nat) : Prop :=
  ∃ arr t, w.heap[b]? = some (.cells arr t (0, 0)) ∧ cells <+: arr.toList ∧ m ≤ arr.size
mutual
def Rep (w : World) (ok : Nat → Prop) : AV → List Value → List Nat → Prop
  | .undef, _, F => F = []
  | .val v, cs, F => F = [] ∧ cs = [v] ∧ v.oneCell' = true
  | .ptr b i f n, cs, F => F = [] ∧ ∃ b', b = some b' ∧ cs = [.pointer (some ⟨b', i * n + f, none⟩)]
  | .rop n xs i f, cs, F => F = [] ∧ ∃ b o c, cs = [.pointer (some ⟨b, o + (i * n + f), none⟩)] ∧ RepL w ok n xs c [] ∧ RoAt w ok b o c
  | .optr n xs i f, cs, F => ∃ b c F', cs = [.pointer (some ⟨b, i * n + f, none⟩)] ∧ RepL w ok n xs c F' ∧ BlkAt w b c 0 ∧ F = b :: F'
  | .loc none off len k _, cs, F => F = [] ∧ off = 0 ∧ len = 0 ∧ k = 0 ∧ cs = [.slice none 0 0]
  | .loc (some b) off len k n, cs, F => F = [] ∧ ∃ cap, cs = [.slice (some ⟨b, off * n, none⟩) len cap] ∧ len ≤ k ∧ k ≤ cap ∧ BlkAt w b [] ((off + cap) * n)
  | .ro n xs sp c, cs, F => F = [] ∧ ∃ A cap c1 c2, cs = [.slice A xs.length cap] ∧ xs.length + sp.length ≤ cap ∧ (c = true → cap = xs.length + sp.length) ∧
      RepL w ok n xs c1 [] ∧ RepL w ok n sp c2 [] ∧ (c1 ++ c2 = [] ∨ ∃ b o, A = some ⟨b, o, none⟩ ∧ RoAt w ok b o (c1 ++ c2))
  | .own n xs sp, cs, F => (xs = [] ∧ sp = [] ∧ F = [] ∧ cs = [.slice none 0 0]) ∨ ∃ b cap c1 c2 F1 F2, cs = [.slice (some ⟨b, 0, none⟩) xs.length cap] ∧
      xs.length + sp.length ≤ cap ∧ RepL w ok n xs c1 F1 ∧ RepL w ok n sp c2 F2 ∧ BlkAt w b (c1 ++ c2) (cap * n) ∧ F = b :: (F1 ++ F2)
  | .agg vs, cs, F => RepL w ok 1 vs cs F
  | .tup vs, cs, F => ∃ vals, cs = [.tuple vals.toArray] ∧ RepT w ok vs vals F
  | .fn f caps, cs, F => ∃ vals, cs = [.func (.func f) #[] vals.toArray] ∧ RepT w ok caps vals F
def RepL (w : World) (ok : Nat → Prop) (n : Nat) : List AV → List Value → List Nat → Prop
  | [], cs, F => cs = [] ∧ F = []
  | a :: as, cs, F => ∃ c1 c2 F1 F2, cs = c1 ++ c2 ∧ F = F1 ++ F2 ∧ c1.length = n ∧ (∀ v ∈ c1, v.oneCell' = true) ∧ Rep w ok a c1 F1 ∧ RepL w ok n as c2 F2
def RepT (w : World) (ok : Nat → Prop) : List AV → List Value → List Nat → Prop
  | [], vs, F => vs = [] ∧ F = []
  | a :: as, vs, F => ∃ v vs' c1 F1 F2, vs = v :: vs' ∧ F = F1 ++ F2 ∧ Rep w ok a c1 F1 ∧ v = wrapV a c1 ∧ RepT w ok as vs' F2
end
def RepV (w : World) (ok : Nat → Prop) (a : AV) (v : Value) (F : List Nat) : Prop := ∃ cs, Rep w ok a cs F ∧ v = wrapV a cs
structure Keeps (w w' : World) (ok ok' : Nat → Prop) (F : List Nat) : Prop where
  ok : ∀ b, ok b → ok' b ∧ w'.heap[b]? = w.heap[b]?
  own : ∀ b ∈ F, w'.heap[b]? = w.heap[b]?
  room : ∀ b m, BlkAt w b [] m → BlkAt w' b [] m
theorem Keeps.sub {w w' : World} {ok ok' : Nat → Prop} {F F' : List Nat} (h : Keeps w w' ok ok' F) (hs : ∀ b ∈ F', b ∈ F) : Keeps w w' ok ok' F' :=
  ⟨h.ok, fun b hb => h.own b (hs b hb), h.room⟩
theorem cell_of_heap {w w' : World} {b : Nat} (h : w'.heap[b]? = w.heap[b]?) (o : Nat) : w'.cell? ⟨b, o, none⟩ = w.cell? ⟨b, o, none⟩ := by
  simp only [World.cell?, h]
theorem RoAt.keep {w w' : World} {ok ok' : Nat → Prop} (h : ∀ b, ok b → ok' b ∧ w'.heap[b]? = w.heap[b]?) {b o : Nat} {cells : List Value} (hr : RoAt w ok b o cells) : RoAt w' ok' b o cells :=
  ⟨(h b hr.1).1, fun j hj => (cell_of_heap (h b hr.1).2 _).trans (hr.2 j hj)⟩
theorem BlkAt.keep {w w' : World} {b : Nat} (h : w'.heap[b]? = w.heap[b]?) {cells : List Value} {m : Nat} (hb : BlkAt w b cells m) : BlkAt w' b cells m := by
  obtain ⟨arr, t, h1, h2⟩ := hb
  exact ⟨arr, t, h.trans h1, h2⟩
mutual
theorem Rep.keep {w w' : World} {ok ok' : Nat → Prop} : ∀ (a : AV) (cs : List Value) (F : List Nat), Keeps w w' ok ok' F → Rep w ok a cs F → Rep w' ok' a cs F
  | .undef, _, _, _, h => h
  | .val _, _, _, _, h => h
  | .ptr _ _ _ _, _, _, _, h => by simpa only [Rep] using h
  | .rop n xs i f, cs, F, hk, h => by
    simp only [Rep] at h ⊢
    obtain ⟨rfl, b, o, c, h1, h2, h3⟩ := h
    exact ⟨rfl, b, o, c, h1, RepL.keep n xs c [] hk h2, h3.keep hk.ok⟩
  | .optr n xs i f, cs, F, hk, h => by
    simp only [Rep] at h ⊢
    obtain ⟨b, c, F', h1, h2, h3, rfl⟩ := h
    exact ⟨b, c, F', h1, RepL.keep n xs c F' (hk.sub fun _ hb => List.mem_cons_of_mem _ hb) h2, h3.keep (hk.own b (List.mem_cons_self ..)), rfl⟩
  | .loc none _ _ _ _, _, _, _, h => by simpa only [Rep] using h
  | .loc (some b) off len k n, cs, F, hk, h => by
    simp only [Rep] at h ⊢
    obtain ⟨rfl, cap, h1, h2, h3, h4⟩ := h
    exact ⟨rfl, cap, h1, h2, h3, hk.room _ _ h4⟩
  | .ro n xs sp c, cs, F, hk, h => by
    simp only [Rep] at h ⊢
    obtain ⟨rfl, A, cap, c1, c2, h1, h2, h3, h4, h5, h6⟩ := h
    refine ⟨rfl, A, cap, c1, c2, h1, h2, h3, RepL.keep n xs c1 [] hk h4, RepL.keep n sp c2 [] hk h5, ?_⟩
    rcases h6 with h6 | ⟨b, o, h6, h7⟩
    · exact .inl h6
    · exact .inr ⟨b, o, h6, h7.keep hk.ok⟩
  | .own n xs sp, cs, F, hk, h => by
    simp only [Rep] at h ⊢
    rcases h with h | ⟨b, cap, c1, c2, F1, F2, h1, h2, h3, h4, h5, rfl⟩
    · exact .inl h
    · exact .inr ⟨b, cap, c1, c2, F1, F2, h1, h2, RepL.keep n xs c1 F1 (hk.sub fun x hx => by simp [hx]) h3, RepL.keep n sp c2 F2 (hk.sub fun x hx => by simp [hx]) h4, h5.keep (hk.own b (List.mem_cons_self ..)), rfl⟩
  | .agg vs, cs, F, hk, h => by
    simp only [Rep] at h ⊢
    exact RepL.keep 1 vs cs F hk h
  | .tup vs, cs, F, hk, h => by
    simp only [Rep] at h ⊢
    obtain ⟨vals, h1, h2⟩ := h
    exact ⟨vals, h1, RepT.keep vs vals F hk h2⟩
  | .fn f caps, cs, F, hk, h => by
    simp only [Rep] at h ⊢
    obtain ⟨vals, h1, h2⟩ := h
    exact ⟨vals, h1, RepT.keep caps vals F hk h2⟩
theorem RepL.keep {w w' : World} {ok ok' : Nat → Prop} (n : Nat) : ∀ (as : List AV) (cs : List Value) (F : List Nat), Keeps w w' ok ok' F → RepL w ok n as cs F → RepL w' ok' n as cs F
  | [], _, _, _, h => h
  | a :: as, cs, F, hk, h => by
    simp only [RepL] at h ⊢
    obtain ⟨c1, c2, F1, F2, rfl, rfl, h1, h0, h2, h3⟩ := h
    exact ⟨c1, c2, F1, F2, rfl, rfl, h1, h0, Rep.keep a c1 F1 (hk.sub fun x hx => by simp [hx]) h2, RepL.keep n as c2 F2 (hk.sub fun x hx => by simp [hx]) h3⟩
theorem RepT.keep {w w' : World} {ok ok' : Nat → Prop} : ∀ (as : List AV) (vs : List Value) (F : List Nat), Keeps w w' ok ok' F → RepT w ok as vs F → RepT w' ok' as vs F
  | [], _, _, _, h => h
  | a :: as, vs, F, hk, h => by
    simp only [RepT] at h ⊢
    obtain ⟨v, vs', c1, F1, F2, rfl, rfl, h1, h2, h3⟩ := h
    exact ⟨v, vs', c1, F1, F2, rfl, rfl, Rep.keep a c1 F1 (hk.sub fun x hx => by simp [hx]) h1, h2, RepT.keep as vs' F2 (hk.sub fun x hx => by simp [hx]) h3⟩
end
theorem RepV.keep {w w' : World} {ok ok' : Nat → Prop} {a : AV} {v : Value} {F : List Nat} (hk : Keeps w w' ok ok' F) (h : RepV w ok a v F) : RepV w' ok' a v F :=
  let ⟨cs, h1, h2⟩ := h; ⟨cs, Rep.keep a cs F hk h1, h2⟩
end Go.Ax
namespace Go.Ax
structure Row where
  n : Nat
  xs : List AV
structure St where
  tm : List (Nat × AV)
  hp : List (Option Nat × Row)
def look : List (Nat × AV) → Nat → Option AV
  | [], _ => none
  | (k, v) :: r, t => cond (Nat.beq k t) (some v) (look r t)
def RowRep (w : World) (ok : Nat → Prop) : Option Nat → Row → List Nat → Prop
  | none, r, F => r.xs = [] ∧ F = []
  | some b, r, F => ∃ cells F', RepL w ok r.n r.xs cells F' ∧ BlkAt w b cells 0 ∧ F = b :: F'
def HpRep (w : World) (ok : Nat → Prop) : List (Option Nat × Row) → List Nat → Prop
  | [], F => F = []
  | (B, r) :: h, F => ∃ F1 F2, F = F1 ++ F2 ∧ RowRep w ok B r F1 ∧ HpRep w ok h F2
structure GL where
  holds : World → Prop
  low : Nat
  keep : ∀ w w' : World, (∀ b, b < low → w'.heap[b]? = w.heap[b]?) → holds w → holds w'
structure Ctx where
  g : GL
  nt : Nat
  w0 : World
  ok0 : Nat → Prop
  own0 : List Nat
  /-- What was handed over may be lent for good. -/
  fz : Prop
structure RelX (C : Ctx) (s : St) (a : Act) (w : World) (ok : Nat → Prop) (F : List Nat) : Prop where
  size : a.tmps.size = C.nt
  defers : a.defers = []
  tm : ∀ t v, look s.tm t = some v → RepV w ok v (a.tmps.getD t undef) []
  hp : HpRep w ok s.hp F
  nodup : F.Nodup
  own : ∀ b ∈ F, (b ∈ C.own0 ∨ C.w0.heap.size ≤ b) ∧ ¬ ok b ∧ b < w.heap.size
  okOf : ∀ b, ok b → b < w.heap.size ∧ (C.ok0 b ∨ (C.fz ∧ b ∈ C.own0) ∨ C.w0.heap.size ≤ b)
  ok0 : ∀ b, C.ok0 b → ok b
  frame : ∀ k, k < C.w0.heap.size → k ∉ C.own0 → w.heap[k]? = C.w0.heap[k]?
  grown : C.w0.heap.size ≤ w.heap.size
  room : ∀ b m, BlkAt C.w0 b [] m → BlkAt w b [] m
  os : w.os = C.w0.os
  tape : w.tape = C.w0.tape
  output : w.output = C.w0.output
  gl : C.g.holds C.w0
  low : ∀ b, b < C.g.low → C.ok0 b
  sep : ∀ b, C.ok0 b → b < C.w0.heap.size ∧ b ∉ C.own0
def Rel (C : Ctx) (s : St) (a : Act) (w : World) : Prop := ∃ ok F, RelX C s a w ok F
def AOps (P : Program) (C : Ctx) (ops : Array Oper) (l : List Oper) (K : St → Prop) (s : St) : Prop :=
  ∀ (Q : Exit → Act → World → Prop) a w, (∀ s' a' w', Rel C s' a' w' → K s' → Q .normal a' w') → Rel C s a w → wpList P ops Q l a w
def AWP (P : Program) (C : Ctx) (c : Code) (Q : Exit → St → Prop) (s : St) : Prop :=
  ∀ (R : Exit → Act → World → Prop) a w, (∀ e s' a' w', Rel C s' a' w' → Q e s' → R e a' w') → Rel C s a w → c.wp P R a w
theorem RelX.glob {C : Ctx} {s : St} {a : Act} {w : World} {ok : Nat → Prop} {F : List Nat} (h : RelX C s a w ok F) : C.g.holds w :=
  C.g.keep C.w0 w (fun b hb => h.frame b (h.sep b (h.low b hb)).1 (h.sep b (h.low b hb)).2) h.gl
def avOf : Value → AV
  | .agg cs => .agg (cs.toList.map .val)
  | v => .val v
def constOk : Value → Bool
  | .agg cs => cs.toList.all Value.oneCell'
  | v => v.oneCell'
def aev (s : St) : Operand → Option AV
  | .tmp t => look s.tm t
  | .const v => cond (constOk v) (some (avOf v)) none
  | .func f => some (.fn f [])
  | .global _ => none
theorem repL_vals (w : World) (ok : Nat → Prop) : ∀ l : List Value, l.all Value.oneCell' = true → RepL w ok 1 (l.map .val) l []
  | [], _ => by simp [RepL]
  | v :: l, h => by
    simp only [List.all_cons, Bool.and_eq_true] at h
    simp only [List.map_cons, RepL]
    exact ⟨[v], l, [], [], rfl, rfl, rfl, by simpa using h.1, by simp [Rep, h.1], repL_vals w ok l h.2⟩
theorem repV_avOf (w : World) (ok : Nat → Prop) (v : Value) (h : constOk v = true) : RepV w ok (avOf v) v [] := by
  cases v with
  | agg cs => exact ⟨cs.toList, by simpa [avOf, Rep] using repL_vals w ok cs.toList h, by simp [avOf, wrapV]⟩
  | _ => exact ⟨[_], ⟨rfl, rfl, h⟩, rfl⟩
theorem RelX.ev {C : Ctx} {s : St} {a : Act} {w : World} {ok : Nat → Prop} {F : List Nat} (h : RelX C s a w ok F) {x : Operand} {v : AV} (hx : aev s x = some v) : RepV w ok v (a.eval x) [] := by
  cases x with
  | tmp t => exact h.tm t v hx
  | const c =>
    simp only [aev] at hx
    cases hc : constOk c with
    | false => simp [hc] at hx
    | true => simp only [hc, cond_true, Option.some.injEq] at hx; subst hx; exact repV_avOf w ok c hc
  | func f =>
    simp only [aev, Option.some.injEq] at hx; subst hx
    exact ⟨[.func (.func f) #[] #[]], by simp only [Rep]; exact ⟨[], rfl, by simp [RepT]⟩, rfl⟩
  | global g => simp [aev] at hx
theorem RelX.val {C : Ctx} {s : St} {a : Act} {w : World} {ok : Nat → Prop} {F : List Nat} (h : RelX C s a w ok F) {x : Operand} {v : Value} (hx : aev s x = some (.val v)) : a.eval x = v := by
  obtain ⟨cs, h1, h2⟩ := h.ev hx
  simp only [Rep] at h1
  rw [h2, h1.2.1]; rfl
theorem look_cons (d : Nat) (v : AV) (l : List (Nat × AV)) (t : Nat) : look ((d, v) :: l) t = if d = t then some v else look l t := by
  simp only [look]
  by_cases h : d = t
  · subst h; simp
  · have e : Nat.beq d t = false := by
      cases hb : Nat.beq d t with
      | false => rfl
      | true => exact absurd (Nat.eq_of_beq_eq_true hb) h
    simp [h, e]
theorem RelX.put {C : Ctx} {s : St} {a : Act} {w : World} {ok : Nat → Prop} {F : List Nat} (h : RelX C s a w ok F) {d : Nat} (hd : d < C.nt) {v : AV} {cv : Value} (hv : RepV w ok v cv []) :
    RelX C ⟨(d, v) :: s.tm, s.hp⟩ (a.put (some d) cv) w ok F := by
  refine { h with size := ?_, defers := h.defers, tm := ?_ }
  · simp [Act.put, h.size]
  · intro t u ht
    rw [look_cons] at ht
    by_cases e : d = t
    · subst e
      simp only [if_true, Option.some.injEq] at ht
      subst ht
      have : (a.put (some d) cv).tmps.getD d undef = cv := by
        simp [Act.put, Array.getD_eq_getD_getElem?, h.size, hd]
      rw [this]; exact hv
    · rw [if_neg e] at ht
      have : (a.put (some d) cv).tmps.getD t undef = a.tmps.getD t undef := by
        simp [Act.put, Array.getD_eq_getD_getElem?, Array.getElem?_setIfInBounds, e]
      rw [this]; exact h.tm t u ht
theorem RelX.tmKeep {C : Ctx} {s : St} {a : Act} {w w' : World} {ok ok' : Nat → Prop} {F : List Nat} (h : RelX C s a w ok F) (hk : Keeps w w' ok ok' []) :
    ∀ t v, look s.tm t = some v → RepV w' ok' v (a.tmps.getD t undef) [] := fun t v ht => (h.tm t v ht).keep hk
theorem RowRep.keep {w w' : World} {ok ok' : Nat → Prop} {B : Option Nat} {r : Row} {F : List Nat} (hk : Keeps w w' ok ok' F) (h : RowRep w ok B r F) : RowRep w' ok' B r F := by
  cases B with
  | none => exact h
  | some b =>
    obtain ⟨cells, F', h1, h2, rfl⟩ := h
    exact ⟨cells, F', RepL.keep _ _ _ _ (hk.sub fun x hx => List.mem_cons_of_mem _ hx) h1, h2.keep (hk.own b (List.mem_cons_self ..)), rfl⟩
theorem HpRep.keep {w w' : World} {ok ok' : Nat → Prop} : ∀ {h : List (Option Nat × Row)} {F : List Nat}, Keeps w w' ok ok' F → HpRep w ok h F → HpRep w' ok' h F
  | [], _, _, h => h
  | (B, r) :: hp, F, hk, h => by
    obtain ⟨F1, F2, rfl, h1, h2⟩ := h
    exact ⟨F1, F2, rfl, h1.keep (hk.sub fun x hx => by simp [hx]), HpRep.keep (hk.sub fun x hx => by simp [hx]) h2⟩
theorem AOps.nil {P : Program} {C : Ctx} {ops : Array Oper} {K : St → Prop} {s : St} (h : K s) : AOps P C ops [] K s :=
  fun _ _ _ hQ hr => hQ _ _ _ hr h
theorem wpList_value {P : Program} {ops : Array Oper} {Q : Exit → Act → World → Prop} {o : Oper} {rest : List Oper} {a : Act} {w w' : World} {v : Value}
    (hg : o.guard = none) (hr : (execOp a.eval o).run P w = .ok (.value v) w') (h : wpList P ops Q rest (a.put o.dst v) w') : wpList P ops Q (o :: rest) a w := by
  unfold wpList
  rw [if_pos (by simp [Region.wanted, hg])]
  refine .inl ?_
  unfold Oper.wp
  rw [hr]
  exact h
theorem wpList_skipped {P : Program} {ops : Array Oper} {Q : Exit → Act → World → Prop} {o : Oper} {rest : List Oper} {a : Act} {w w' : World}
    (hg : o.guard = none) (hr : (execOp a.eval o).run P w = .ok .skip w') (h : wpList P ops Q rest (a.put o.dst undef) w') : wpList P ops Q (o :: rest) a w := by
  unfold wpList
  rw [if_pos (by simp [Region.wanted, hg])]
  refine .inl ?_
  unfold Oper.wp
  rw [hr]
  exact h
def Yields (P : Program) (C : Ctx) (s : St) (op : Op) (ty : TypeId) (v : AV) : Prop :=
  ∀ (d : Option Tmp) (pos : String) (after : Array Edge) (a : Act) (w : World) (ok : Nat → Prop) (F : List Nat), RelX C s a w ok F →
    ∃ cv, (execOp a.eval ⟨d, op, ty, pos, after, none⟩).run P w = .ok (.value cv) w ∧ RepV w ok v cv []
theorem AOps.yields {P : Program} {C : Ctx} {ops : Array Oper} {K : St → Prop} {s : St} {d : Nat} {op : Op} {ty : TypeId} {pos : String} {after : Array Edge} {rest : List Oper} {v : AV}
    (hd : Nat.blt d C.nt = true) (hv : Yields P C s op ty v) (h : AOps P C ops rest K ⟨(d, v) :: s.tm, s.hp⟩) :
    AOps P C ops (⟨some d, op, ty, pos, after, none⟩ :: rest) K s := by
  intro Q a w hQ ⟨ok, F, hr⟩
  obtain ⟨cv, h1, h2⟩ := hv (some d) pos after a w ok F hr
  exact wpList_value rfl h1 (h Q _ _ hQ ⟨ok, F, hr.put (by simpa using hd) h2⟩)
section
variable {P : Program} {C : Ctx} {s : St} {ty : TypeId}
theorem Yields.move {x : Operand} {v : AV} (hx : aev s x = some v) : Yields P C s (.move x) ty v :=
  fun _ _ _ a w ok F h => ⟨a.eval x, rfl, h.ev hx⟩
theorem Yields.assign {x : Operand} {v : AV} (hx : aev s x = some v) : Yields P C s (.assign x) ty v :=
  fun _ _ _ a w ok F h => ⟨a.eval x, rfl, h.ev hx⟩
theorem Yields.pick_true {c x y : Operand} {v : AV} (hc : aev s c = some (.val (.bool true))) (hx : aev s x = some v) : Yields P C s (.pick c x y) ty v :=
  fun _ _ _ a w ok F h => ⟨a.eval x, by simp [execOp, h.val hc, asBool], h.ev hx⟩
theorem Yields.pick_false {c x y : Operand} {v : AV} (hc : aev s c = some (.val (.bool false))) (hy : aev s y = some v) : Yields P C s (.pick c x y) ty v :=
  fun _ _ _ a w ok F h => ⟨a.eval y, by simp [execOp, h.val hc, asBool], h.ev hy⟩
theorem repV_val (w : World) (ok : Nat → Prop) (v : Value) (h : v.oneCell' = true) : RepV w ok (.val v) v [] := ⟨[v], by simp [Rep, h], rfl⟩
def BinR (P : Program) (op : BinOp) (t : TypeId) (x y : Operand) (a b r : Value) : Prop :=
  ∀ w, (do eqGuard op t x y a b; binOp op t a b : Sem Value).run P w = .ok r w
theorem run_value {P : Program} {e : Sem Value} {w w' : World} {v : Value} (h : e.run P w = .ok v w') : (do pure (Next.value (← e)) : Sem Next).run P w = .ok (.value v) w' := by
  rw [Sem.run_bind, h]; rfl
theorem Yields.bin {op : BinOp} {t : TypeId} {x y : Operand} {yt : TypeId} {a b r : Value} (hx : aev s x = some (.val a)) (hy : aev s y = some (.val b)) (ho : r.oneCell' = true) (hr : BinR P op t x y a b r) :
    Yields P C s (.binOp op t x y yt) ty (.val r) := by
  intro d pos after ac w ok F h
  refine ⟨r, ?_, repV_val _ _ _ ho⟩
  have hr' := hr w
  have hX := h.val hx
  have hY := h.val hy
  simp only [execOp, hX, hY]
  exact run_value hr'
end
end Go.Ax
namespace Go.Ax
section lists
variable {w : World} {ok : Nat → Prop} {n : Nat}
theorem RepL.length : ∀ {xs : List AV} {c : List Value} {F : List Nat}, RepL w ok n xs c F → c.length = xs.length * n
  | [], c, F, h => by simp only [RepL] at h; simp [h.1]
  | a :: as, c, F, h => by
    simp only [RepL] at h
    obtain ⟨c1, c2, F1, F2, rfl, rfl, h1, h0, h2, h3⟩ := h
    simp [h1, RepL.length h3, Nat.succ_mul, Nat.add_comm]
theorem RepL.one : ∀ {xs : List AV} {c : List Value} {F : List Nat}, RepL w ok n xs c F → ∀ v ∈ c, v.oneCell' = true
  | [], c, F, h => by simp only [RepL] at h; simp [h.1]
  | a :: as, c, F, h => by
    simp only [RepL] at h
    obtain ⟨c1, c2, F1, F2, rfl, rfl, h1, h0, h2, h3⟩ := h
    intro v hv
    rcases List.mem_append.1 hv with hv | hv
    · exact h0 v hv
    · exact RepL.one h3 v hv
theorem RepL.append : ∀ {xs ys : List AV} {c d : List Value} {F G : List Nat}, RepL w ok n xs c F → RepL w ok n ys d G → RepL w ok n (xs ++ ys) (c ++ d) (F ++ G)
  | [], ys, c, d, F, G, h, h' => by
    simp only [RepL] at h
    obtain ⟨rfl, rfl⟩ := h
    simpa using h'
  | a :: as, ys, c, d, F, G, h, h' => by
    simp only [RepL] at h
    obtain ⟨c1, c2, F1, F2, rfl, rfl, h1, h0, h2, h3⟩ := h
    simp only [List.cons_append, RepL]
    exact ⟨c1, c2 ++ d, F1, F2 ++ G, by simp, by simp, h1, h0, h2, RepL.append h3 h'⟩
theorem RepL.split : ∀ {xs ys : List AV} {c : List Value} {F : List Nat}, RepL w ok n (xs ++ ys) c F → ∃ c1 c2 F1 F2, c = c1 ++ c2 ∧ F = F1 ++ F2 ∧ RepL w ok n xs c1 F1 ∧ RepL w ok n ys c2 F2
  | [], ys, c, F, h => ⟨[], c, [], F, rfl, rfl, by simp [RepL], h⟩
  | a :: as, ys, c, F, h => by
    simp only [List.cons_append, RepL] at h
    obtain ⟨c1, c2, F1, F2, rfl, rfl, h1, h0, h2, h3⟩ := h
    obtain ⟨d1, d2, G1, G2, rfl, rfl, h4, h5⟩ := RepL.split h3
    exact ⟨c1 ++ d1, d2, F1 ++ G1, G2, by simp, by simp, by simp only [RepL]; exact ⟨c1, d1, F1, G1, rfl, rfl, h1, h0, h2, h4⟩, h5⟩
theorem RepL.get : ∀ {xs : List AV} {c : List Value} {F : List Nat}, RepL w ok n xs c F → ∀ {i : Nat} {v : AV}, xs[i]? = some v →
    ∃ cs F', cs.length = n ∧ (∀ x ∈ cs, x.oneCell' = true) ∧ Rep w ok v cs F' ∧ (∀ j, j < n → c[i * n + j]? = cs[j]?) ∧ (∀ b ∈ F', b ∈ F)
  | [], c, F, h, i, v, hv => by simp at hv
  | a :: as, c, F, h, i, v, hv => by
    simp only [RepL] at h
    obtain ⟨c1, c2, F1, F2, rfl, rfl, h1, h0, h2, h3⟩ := h
    cases i with
    | zero =>
      simp only [List.getElem?_cons_zero, Option.some.injEq] at hv
      subst hv
      refine ⟨c1, F1, h1, h0, h2, fun j hj => ?_, fun b hb => by simp [hb]⟩
      rw [List.getElem?_append_left (by omega)]; simp
    | succ i =>
      simp only [List.getElem?_cons_succ] at hv
      obtain ⟨cs, F', h4, h5, h6, h7, h8⟩ := RepL.get h3 hv
      refine ⟨cs, F', h4, h5, h6, fun j hj => ?_, fun b hb => by simp [h8 b hb]⟩
      rw [List.getElem?_append_right (by rw [h1, Nat.succ_mul]; omega), ← h7 j hj]
      congr 1
      rw [h1, Nat.succ_mul]; omega
theorem RepL.nilF {xs : List AV} {c : List Value} (h : RepL w ok n xs c []) {i : Nat} {v : AV} (hv : xs[i]? = some v) :
    ∃ cs, cs.length = n ∧ (∀ x ∈ cs, x.oneCell' = true) ∧ Rep w ok v cs [] ∧ (∀ j, j < n → c[i * n + j]? = cs[j]?) := by
  obtain ⟨cs, F', h1, h2, h3, h4, h5⟩ := h.get hv
  have : F' = [] := by cases F' with
    | nil => rfl
    | cons b l => exact absurd (h5 b (by simp)) (by simp)
  subst this
  exact ⟨cs, h1, h2, h3, h4⟩
end lists
def fieldOff (P : Program) (S : TypeId) (f : Nat) : Option Nat :=
  match P.underlying S with
  | some (.struct fs) => match fs[f]? with
    | some fd => match P.info? fd.type with
      | some i => if i.size = 0 then none else some fd.offset
      | none => none
    | none => none
  | _ => none
def slElem (P : Program) (t : TypeId) : Option (TypeId × Nat × Nat) :=
  match P.underlying t with
  | some (.slice e) => match P.info? e with
    | some i => some (e, i.size, i.bytes)
    | none => none
  | _ => none
def kindT (P : Program) (t : TypeId) : Option (Bool × Nat) :=
  match P.underlying t with
  | some (.struct _) | some (.array _ _) => match P.info? t with
    | some i => some (true, i.size)
    | none => none
  | some _ => match P.info? t with
    | some i => some (false, i.size)
    | none => none
  | none => none
def zeroT (P : Program) (t : TypeId) : Option Value := (P.info? t).bind (·.zero)
theorem slElem_spec {P : Program} {t e n b : Nat} (h : slElem P t = some (e, n, b)) : P.underlying t = some (.slice e) ∧ ∃ i, P.info? e = some i ∧ i.size = n ∧ i.bytes = b := by
  unfold slElem at h
  split at h
  · split at h
    · rename_i _ e' hu _ i hi
      simp only [Option.some.injEq, Prod.mk.injEq] at h
      obtain ⟨rfl, rfl, rfl⟩ := h
      exact ⟨hu, i, hi, rfl, rfl⟩
    · cases h
  · cases h
theorem run_typeInfo' {P : Program} {t : TypeId} {i : TypeInfo} (h : P.info? t = some i) (w : World) : (typeInfo t).run P w = .ok i w := by
  simp [typeInfo, h]
theorem run_sizeOf' {P : Program} {t : TypeId} {i : TypeInfo} (h : P.info? t = some i) (w : World) : (sizeOf t).run P w = .ok i.size w := by
  simp [sizeOf, run_typeInfo' h]
theorem run_zero' {P : Program} {t : TypeId} {z : Value} (h : zeroT P t = some z) (w : World) : (zeroValue t).run P w = .ok z w := by
  unfold zeroT at h
  cases hi : P.info? t with
  | none => simp [hi] at h
  | some i =>
    simp only [hi, Option.bind_some] at h
    simp [zeroValue, run_typeInfo' hi, h]
theorem kindT_agg {P : Program} {t : TypeId} {g : Bool} {n : Nat} (h : kindT P t = some (g, n)) : (∀ w, (isAgg t).run P w = .ok g w) ∧ ∃ i, P.info? t = some i ∧ i.size = n := by
  unfold kindT at h
  constructor
  · intro w
    unfold isAgg
    rw [Sem.run_bind]
    cases hu : P.underlying t with
    | none => simp [hu] at h
    | some d =>
      rw [run_underlying hu, Result.andThen_ok]
      cases d <;> simp only [hu] at h <;> (split at h <;> first | (cases h; done) | (simp only [Option.some.injEq, Prod.mk.injEq] at h; obtain ⟨rfl, _⟩ := h; rfl))
  · cases hu : P.underlying t with
    | none => simp [hu] at h
    | some d =>
      cases d <;> simp only [hu] at h <;> (split at h <;> first | (cases h; done) | (rename_i i hi; simp only [Option.some.injEq, Prod.mk.injEq] at h; exact ⟨i, hi, h.2⟩))
theorem fieldOff_spec {P : Program} {S f o : Nat} (h : fieldOff P S f = some o) : ∃ fs fd i, P.underlying S = some (.struct fs) ∧ fs[f]? = some fd ∧ P.info? fd.type = some i ∧ i.size ≠ 0 ∧ fd.offset = o := by
  unfold fieldOff at h
  split at h
  · split at h
    · split at h
      · split at h
        · cases h
        · rename_i _ fs hu _ fd hf _ i hi hn
          simp only [Option.some.injEq] at h
          exact ⟨fs, fd, i, hu, hf, hi, hn, h⟩
      · cases h
    · cases h
  · cases h
theorem run_loadCellsFrom {P : Program} {w : World} {b o : Nat} : ∀ (cs : List Value) (i : Nat) (acc : Array Value), (∀ j (h : j < cs.length), w.cell? ⟨b, o + (i + j), none⟩ = some cs[j]) →
    (loadCellsFrom ⟨b, o, none⟩ i cs.length acc).run P w = .ok (acc ++ cs.toArray) w
  | [], i, acc, _ => by simp [loadCellsFrom]
  | v :: cs, i, acc, h => by
    have h0 : w.cell? (Addr.add ⟨b, o, none⟩ i) = some v := by
      have := h 0 (by simp)
      simpa [Addr.add_lit] using this
    simp only [List.length_cons, loadCellsFrom, Sem.run_bind, run_load, h0, Result.andThen_ok]
    rw [run_loadCellsFrom cs (i + 1) (acc.push v) (fun j hj => by
      have := h (j + 1) (by simpa using hj)
      simpa [Nat.add_assoc, Nat.add_comm 1 j] using this)]
    simp
theorem run_loadAgg {P : Program} {w : World} {T b o : Nat} {cs : List Value} (hk : kindT P T = some (true, cs.length)) (h : ∀ j (hj : j < cs.length), w.cell? ⟨b, o + j, none⟩ = some cs[j]) :
    (loadVar T ⟨b, o, none⟩).run P w = .ok (.agg cs.toArray) w := by
  obtain ⟨h1, i, h2, h3⟩ := kindT_agg hk
  unfold loadVar
  rw [Sem.run_bind, h1, Result.andThen_ok]
  simp only [if_true, Sem.run_bind, run_sizeOf' h2, Result.andThen_ok, h3, loadCells]
  rw [run_loadCellsFrom cs 0 #[] (fun j hj => by simpa using h j hj)]
  simp
theorem run_loadOne {P : Program} {w : World} {T b o : Nat} {v : Value} {n : Nat} (hk : kindT P T = some (false, n)) (h : w.cell? ⟨b, o, none⟩ = some v) :
    (loadVar T ⟨b, o, none⟩).run P w = .ok v w := by
  obtain ⟨h1, i, h2, h3⟩ := kindT_agg hk
  unfold loadVar
  rw [Sem.run_bind, h1, Result.andThen_ok]
  simp only [Bool.false_eq_true, if_false, run_load, h]
def isAggV : AV → Bool
  | .agg _ => true
  | _ => false
theorem wrap_one {a : AV} (h : isAggV a = false) (v : Value) : wrapV a [v] = v := by
  cases a <;> first | rfl | (simp [isAggV] at h)
section
variable {P : Program} {C : Ctx} {s : St} {ty : TypeId}
theorem Yields.load_rop_agg {T : TypeId} {x : Operand} {n i : Nat} {xs cs : List AV} (hk : kindT P T = some (true, n)) (hx : aev s x = some (.rop n xs i 0)) (hv : xs[i]? = some (.agg cs)) :
    Yields P C s (.load T x) ty (.agg cs) := by
  intro d pos after a w ok F h
  obtain ⟨c0, h1, h2⟩ := h.ev hx
  simp only [Rep] at h1
  obtain ⟨_, b, o, c, rfl, h3, h4⟩ := h1
  obtain ⟨es, e1, e2, e3, e4⟩ := h3.nilF hv
  refine ⟨.agg es.toArray, ?_, es, e3, rfl⟩
  have hr : (loadVar T ⟨b, o + i * n, none⟩).run P w = .ok (.agg es.toArray) w := by
    refine run_loadAgg (by rw [e1]; exact hk) fun j hj => ?_
    have hj' : j < n := by omega
    have e5 := e4 j hj'
    have hlt : i * n + j < c.length := by
      rcases Nat.lt_or_ge (i * n + j) c.length with h' | h'
      · exact h'
      · rw [List.getElem?_eq_none h', List.getElem?_eq_getElem hj] at e5; cases e5
    have := h4.2 _ hlt
    rw [List.getElem?_eq_getElem hlt, List.getElem?_eq_getElem hj, Option.some.injEq] at e5
    rw [Nat.add_assoc, this, e5]
  have hX : a.eval x = .pointer (some ⟨b, o + i * n, none⟩) := by rw [h2]; simp [wrapV]
  simp only [execOp, hX, Instr.loadAt, Instr.sureAddr]
  exact run_value (by simpa using hr)
theorem Yields.load_rop_one {T : TypeId} {x : Operand} {i m : Nat} {xs : List AV} {v : AV} (hk : kindT P T = some (false, m)) (hx : aev s x = some (.rop 1 xs i 0)) (hv : xs[i]? = some v) (ha : isAggV v = false) :
    Yields P C s (.load T x) ty v := by
  intro d pos after a w ok F h
  obtain ⟨c0, h1, h2⟩ := h.ev hx
  simp only [Rep] at h1
  obtain ⟨_, b, o, c, rfl, h3, h4⟩ := h1
  obtain ⟨es, e1, e2, e3, e4⟩ := h3.nilF hv
  obtain ⟨u, rfl⟩ : ∃ u, es = [u] := by
    match es, e1 with
    | [u], _ => exact ⟨u, rfl⟩
  refine ⟨u, ?_, [u], e3, (wrap_one ha u).symm⟩
  have e5 := e4 0 (by omega)
  have hlt : i * 1 + 0 < c.length := by
    rcases Nat.lt_or_ge (i * 1 + 0) c.length with h' | h'
    · exact h'
    · rw [List.getElem?_eq_none h'] at e5; simp at e5
  have h5 := h4.2 _ hlt
  rw [List.getElem?_eq_getElem hlt] at e5
  simp only [List.getElem?_cons_zero, Option.some.injEq] at e5
  have hr : (loadVar T ⟨b, o + (i * 1 + 0), none⟩).run P w = .ok u w := run_loadOne hk (by rw [h5, e5])
  have hX : a.eval x = .pointer (some ⟨b, o + (i * 1 + 0), none⟩) := by rw [h2]; simp [wrapV]
  simp only [execOp, hX, Instr.loadAt, Instr.sureAddr]
  exact run_value (by simpa using hr)
theorem rep_agg_get {w : World} {ok : Nat → Prop} {cs : List AV} {es : List Value} {F : List Nat} (h : Rep w ok (.agg cs) es F) {f : Nat} {v : AV} (hv : cs[f]? = some v) :
    ∃ u F', es[f]? = some u ∧ Rep w ok v [u] F' ∧ (∀ b ∈ F', b ∈ F) ∧ u.oneCell' = true := by
  simp only [Rep] at h
  obtain ⟨ds, F', d1, d2, d3, d4, d5⟩ := h.get hv
  obtain ⟨u, rfl⟩ : ∃ u, ds = [u] := by
    match ds, d1 with
    | [u], _ => exact ⟨u, rfl⟩
  have := d4 0 (by omega)
  simp only [Nat.mul_one, Nat.add_zero, List.getElem?_cons_zero] at this
  exact ⟨u, F', this, d3, d5, d2 u (by simp)⟩
theorem Yields.load_rop_field {T : TypeId} {x : Operand} {n i f m : Nat} {xs cs : List AV} {v : AV} (hk : kindT P T = some (false, m)) (hx : aev s x = some (.rop n xs i f)) (hf : Nat.blt f n = true)
    (hv : xs[i]? = some (.agg cs)) (hc : cs[f]? = some v) (ha : isAggV v = false) : Yields P C s (.load T x) ty v := by
  intro d pos after a w ok F h
  have hf' : f < n := by simpa using hf
  obtain ⟨c0, h1, h2⟩ := h.ev hx
  simp only [Rep] at h1
  obtain ⟨_, b, o, c, rfl, h3, h4⟩ := h1
  obtain ⟨es, e1, e2, e3, e4⟩ := h3.nilF hv
  obtain ⟨u, F', g1, g2, g3, g4⟩ := rep_agg_get e3 hc
  have hF' : F' = [] := by cases F' with
    | nil => rfl
    | cons b l => exact absurd (g3 b (by simp)) (by simp)
  subst hF'
  refine ⟨u, ?_, [u], g2, (wrap_one ha u).symm⟩
  have e5 := e4 f hf'
  have hlt : i * n + f < c.length := by
    rcases Nat.lt_or_ge (i * n + f) c.length with h' | h'
    · exact h'
    · rw [List.getElem?_eq_none h', g1] at e5; simp at e5
  have h5 := h4.2 _ hlt
  rw [List.getElem?_eq_getElem hlt, g1, Option.some.injEq] at e5
  have hr : (loadVar T ⟨b, o + (i * n + f), none⟩).run P w = .ok u w := run_loadOne hk (by rw [h5, e5])
  have hX : a.eval x = .pointer (some ⟨b, o + (i * n + f), none⟩) := by rw [h2]; simp [wrapV]
  simp only [execOp, hX, Instr.loadAt, Instr.sureAddr]
  exact run_value (by simpa using hr)
theorem run_fieldAt {S f o b off : Nat} (h : fieldOff P S f = some o) (w : World) : (Instr.fieldAt S (.pointer (some ⟨b, off, none⟩)) f).run P w = .ok (.pointer (some ⟨b, off + o, none⟩)) w := by
  obtain ⟨fs, fd, i, h1, h2, h3, h4, h5⟩ := fieldOff_spec h
  unfold Instr.fieldAt
  simp only [Sem.run_bind, run_underlying h1, Result.andThen_ok, h2, Instr.sureAddr, Sem.run_pure, fieldPlace, run_sizeOf' h3, Sem.run_ite, if_neg h4, h5, Addr.add_lit]
theorem Yields.fieldAddr_rop {S f o : Nat} {x : Operand} {n i g : Nat} {xs : List AV} (h : fieldOff P S f = some o) (hx : aev s x = some (.rop n xs i g)) :
    Yields P C s (.fieldAddr S x f) ty (.rop n xs i (g + o)) := by
  intro d pos after a w ok F hr
  obtain ⟨c0, h1, h2⟩ := hr.ev hx
  simp only [Rep] at h1
  obtain ⟨_, b, q, c, rfl, h3, h4⟩ := h1
  refine ⟨.pointer (some ⟨b, q + (i * n + (g + o)), none⟩), ?_, [.pointer (some ⟨b, q + (i * n + (g + o)), none⟩)], by simp only [Rep]; exact ⟨trivial, b, q, c, rfl, h3, h4⟩, rfl⟩
  have hX : a.eval x = .pointer (some ⟨b, q + (i * n + g), none⟩) := by rw [h2]; simp [wrapV]
  simp only [execOp, hX]
  refine run_value ?_
  rw [run_fieldAt h]
  simp only [Nat.add_assoc]
theorem Yields.fieldAddr_ptr {S f o : Nat} {x : Operand} {b : Option Nat} {n i g : Nat} (h : fieldOff P S f = some o) (hx : aev s x = some (.ptr b i g n)) :
    Yields P C s (.fieldAddr S x f) ty (.ptr b i (g + o) n) := by
  intro d pos after a w ok F hr
  obtain ⟨c0, h1, h2⟩ := hr.ev hx
  simp only [Rep] at h1
  obtain ⟨_, b', rfl, rfl⟩ := h1
  refine ⟨.pointer (some ⟨b', i * n + (g + o), none⟩), ?_, [.pointer (some ⟨b', i * n + (g + o), none⟩)], by simp only [Rep]; exact ⟨trivial, b', rfl, rfl⟩, rfl⟩
  have hX : a.eval x = .pointer (some ⟨b', i * n + g, none⟩) := by rw [h2]; simp [wrapV]
  simp only [execOp, hX]
  refine run_value ?_
  rw [run_fieldAt h]
  simp only [Nat.add_assoc]
theorem run_indexAt_slice' {t e n bb b o len cap : Nat} {k : IntKind} {i : Int} (h : slElem P t = some (e, n, bb)) (h0 : 0 ≤ i) (h1 : i < len) (w : World) :
    (Instr.indexAt t (.slice (some ⟨b, o, none⟩) len cap) (.int k i)).run P w = .ok (.pointer (some ⟨b, o + i.toNat * n, none⟩)) w := by
  obtain ⟨h2, i', h3, h4, h5⟩ := slElem_spec h
  unfold Instr.indexAt
  simp only [asIntOf, Sem.run_bind, Sem.run_pure, Result.andThen_ok, run_underlying h2]
  rw [if_pos ⟨h0, h1⟩]
  simp [run_sizeOf' h3, h4, Addr.add_lit]
theorem Yields.idx_ro {t e bb : Nat} {x ix : Operand} {n : Nat} {xs sp : List AV} {c : Bool} {k : IntKind} {i : Int} (h : slElem P t = some (e, n, bb)) (hn : Nat.blt 0 n = true) (hx : aev s x = some (.ro n xs sp c))
    (hi : aev s ix = some (.val (.int k i))) (h0 : 0 ≤ i) (h1 : i < xs.length) : Yields P C s (.indexAddr t x ix) ty (.rop n xs i.toNat 0) := by
  intro d pos after a w ok F hr
  have hn' : 0 < n := by simpa using hn
  obtain ⟨c0, r1, r2⟩ := hr.ev hx
  have hI := hr.val hi
  simp only [Rep] at r1
  obtain ⟨_, A, cap, c1, c2, rfl, r3, r4, r5, r6, r7⟩ := r1
  have hl := r5.length
  have hpos : 0 < xs.length * n := Nat.mul_pos (by omega) hn'
  rcases r7 with r7 | ⟨b, o, rfl, r7⟩
  · have : c1 = [] := (List.append_eq_nil_iff.1 r7).1
    rw [this] at hl
    simp at hl
    omega
  · have hX : a.eval x = .slice (some ⟨b, o, none⟩) xs.length cap := by rw [r2]; simp [wrapV]
    refine ⟨.pointer (some ⟨b, o + (i.toNat * n + 0), none⟩), ?_, [.pointer (some ⟨b, o + (i.toNat * n + 0), none⟩)], ?_, rfl⟩
    · simp only [execOp, hX, hI]
      exact run_value (by rw [run_indexAt_slice' h h0 h1]; rfl)
    · simp only [Rep]
      refine ⟨trivial, b, o, c1, rfl, r5, r7.1, fun j hj => ?_⟩
      have := r7.2 j (by simp; omega)
      rwa [List.getElem_append_left hj] at this
theorem Yields.idx_loc {t e bb : Nat} {x ix : Operand} {b : Option Nat} {off len kk n : Nat} {k : IntKind} {i : Int} (h : slElem P t = some (e, n, bb)) (hx : aev s x = some (.loc b off len kk n))
    (hi : aev s ix = some (.val (.int k i))) (h0 : 0 ≤ i) (h1 : i < len) : Yields P C s (.indexAddr t x ix) ty (.ptr b (off + i.toNat) 0 n) := by
  intro d pos after a w ok F hr
  obtain ⟨c0, r1, r2⟩ := hr.ev hx
  have hI := hr.val hi
  cases b with
  | none => simp only [Rep] at r1; omega
  | some b =>
    simp only [Rep] at r1
    obtain ⟨_, cap, rfl, r3, r4, r5⟩ := r1
    have hX : a.eval x = .slice (some ⟨b, off * n, none⟩) len cap := by rw [r2]; simp [wrapV]
    refine ⟨.pointer (some ⟨b, (off + i.toNat) * n + 0, none⟩), ?_, [.pointer (some ⟨b, (off + i.toNat) * n + 0, none⟩)], by simp only [Rep]; exact ⟨trivial, b, rfl, rfl⟩, rfl⟩
    simp only [execOp, hX, hI]
    exact run_value (by rw [run_indexAt_slice' h h0 h1]; simp [Nat.add_mul])
end
end Go.Ax
namespace Go.Ax
mutual
def plainV : AV → Bool
  | .own _ _ _ => false
  | .optr _ _ _ _ => false
  | .agg vs => plainL vs
  | .tup vs => plainL vs
  | .fn _ vs => plainL vs
  | _ => true
def plainL : List AV → Bool
  | [] => true
  | a :: as => plainV a && plainL as
end
mutual
theorem plain_foot {w : World} {ok : Nat → Prop} : ∀ (a : AV) (cs : List Value) (F : List Nat), Rep w ok a cs F → plainV a = true → F = []
  | .undef, _, _, h, _ => h
  | .val _, _, _, h, _ => h.1
  | .ptr _ _ _ _, _, _, h, _ => h.1
  | .rop _ _ _ _, _, _, h, _ => by simp only [Rep] at h; exact h.1
  | .optr _ _ _ _, _, _, _, hp => by simp [plainV] at hp
  | .loc none _ _ _ _, _, _, h, _ => by simp only [Rep] at h; exact h.1
  | .loc (some _) _ _ _ _, _, _, h, _ => by simp only [Rep] at h; exact h.1
  | .ro _ _ _ _, _, _, h, _ => by simp only [Rep] at h; exact h.1
  | .own _ _ _, _, _, _, hp => by simp [plainV] at hp
  | .agg vs, cs, F, h, hp => by simp only [Rep] at h; simp only [plainV] at hp; exact plainL_foot 1 vs cs F h hp
  | .tup vs, cs, F, h, hp => by
    simp only [Rep] at h; simp only [plainV] at hp
    obtain ⟨vals, _, h⟩ := h
    exact plainT_foot vs vals F h hp
  | .fn _ vs, cs, F, h, hp => by
    simp only [Rep] at h; simp only [plainV] at hp
    obtain ⟨vals, _, h⟩ := h
    exact plainT_foot vs vals F h hp
theorem plainL_foot {w : World} {ok : Nat → Prop} (n : Nat) : ∀ (as : List AV) (cs : List Value) (F : List Nat), RepL w ok n as cs F → plainL as = true → F = []
  | [], cs, F, h, _ => by simp only [RepL] at h; exact h.2
  | a :: as, cs, F, h, hp => by
    simp only [RepL] at h
    obtain ⟨c1, c2, F1, F2, rfl, rfl, h1, h0, h2, h3⟩ := h
    simp only [plainL, Bool.and_eq_true] at hp
    rw [plain_foot a c1 F1 h2 hp.1, plainL_foot n as c2 F2 h3 hp.2]; rfl
theorem plainT_foot {w : World} {ok : Nat → Prop} : ∀ (as : List AV) (vs : List Value) (F : List Nat), RepT w ok as vs F → plainL as = true → F = []
  | [], vs, F, h, _ => by simp only [RepT] at h; exact h.2
  | a :: as, vs, F, h, hp => by
    simp only [RepT] at h
    obtain ⟨v, vs', c1, F1, F2, rfl, rfl, h2, h1, h3⟩ := h
    simp only [plainL, Bool.and_eq_true] at hp
    rw [plain_foot a c1 F1 h2 hp.1, plainT_foot as vs' F2 h3 hp.2]; rfl
end
theorem HpRep.at {w : World} {ok : Nat → Prop} : ∀ {hp : List (Option Nat × Row)} {F : List Nat} {j : Nat} {B : Option Nat} {r : Row}, HpRep w ok hp F → hp[j]? = some (B, r) →
    ∃ Fp Fr Fq, F = Fp ++ (Fr ++ Fq) ∧ RowRep w ok B r Fr ∧
      ∀ (w' : World) (ok' : Nat → Prop) B' r' Fr', Keeps w w' ok ok' (Fp ++ Fq) → RowRep w' ok' B' r' Fr' → HpRep w' ok' (hp.set j (B', r')) (Fp ++ (Fr' ++ Fq))
  | [], F, j, B, r, h, hj => by simp at hj
  | (B0, r0) :: hp, F, 0, B, r, h, hj => by
    simp only [List.getElem?_cons_zero, Option.some.injEq, Prod.mk.injEq] at hj
    obtain ⟨rfl, rfl⟩ := hj
    obtain ⟨F1, F2, rfl, h1, h2⟩ := h
    refine ⟨[], F1, F2, rfl, h1, fun w' ok' B' r' Fr' hk hr => ?_⟩
    simp only [List.set_cons_zero, HpRep, List.nil_append]
    exact ⟨Fr', F2, rfl, hr, h2.keep (by simpa using hk)⟩
  | (B0, r0) :: hp, F, j + 1, B, r, h, hj => by
    simp only [List.getElem?_cons_succ] at hj
    obtain ⟨F1, F2, rfl, h1, h2⟩ := h
    obtain ⟨Fp, Fr, Fq, rfl, h3, h4⟩ := HpRep.at h2 hj
    refine ⟨F1 ++ Fp, Fr, Fq, by simp, h3, fun w' ok' B' r' Fr' hk hr => ?_⟩
    simp only [List.set_cons_succ, HpRep, List.append_assoc]
    exact ⟨F1, Fp ++ (Fr' ++ Fq), rfl, h1.keep (hk.sub fun x hx => by simp [hx]), h4 w' ok' B' r' Fr' (hk.sub fun x hx => by
      rcases List.mem_append.1 hx with hx | hx <;> simp [hx]) hr⟩
theorem BlkAt.cell {w : World} {b : Nat} {cells : List Value} {m : Nat} (h : BlkAt w b cells m) {j : Nat} {v : Value} (hj : cells[j]? = some v) : w.cell? ⟨b, j, none⟩ = some v := by
  obtain ⟨arr, t, h1, ⟨tl, h2⟩, h3⟩ := h
  have hlt : j < cells.length := by
    rcases Nat.lt_or_ge j cells.length with h' | h'
    · exact h'
    · rw [List.getElem?_eq_none h'] at hj; cases hj
  simp only [World.cell?, h1, Option.isSome_none, Bool.false_eq_true, if_false]
  rw [← Array.getElem?_toList, ← h2, List.getElem?_append_left hlt, hj]
theorem BlkAt.lt {w : World} {b : Nat} {cells : List Value} {m : Nat} (h : BlkAt w b cells m) : b < w.heap.size := by
  obtain ⟨arr, t, h1, _⟩ := h
  exact (Array.getElem?_eq_some_iff.1 h1).1
theorem RelX.row {C : Ctx} {s : St} {a : Act} {w : World} {ok : Nat → Prop} {F : List Nat} (h : RelX C s a w ok F) {j b : Nat} {r : Row} (hj : s.hp[j]? = some (some b, r)) :
    ∃ cells F', RepL w ok r.n r.xs cells F' ∧ BlkAt w b cells 0 ∧ (∀ x ∈ F', x ∈ F) ∧ b ∈ F := by
  obtain ⟨Fp, Fr, Fq, rfl, h1, _⟩ := h.hp.at hj
  obtain ⟨cells, F', h2, h3, rfl⟩ := h1
  exact ⟨cells, F', h2, h3, fun x hx => by simp [hx], by simp⟩
section
variable {P : Program} {C : Ctx} {s : St} {ty : TypeId}
theorem Yields.load_ptr_agg {T : TypeId} {x : Operand} {n i b j : Nat} {xs cs : List AV} (hk : kindT P T = some (true, n)) (hx : aev s x = some (.ptr (some b) i 0 n)) (hj : s.hp[j]? = some (some b, ⟨n, xs⟩))
    (hv : xs[i]? = some (.agg cs)) (hp : plainL cs = true) : Yields P C s (.load T x) ty (.agg cs) := by
  intro d pos after a w ok F h
  obtain ⟨c0, h1, h2⟩ := h.ev hx
  simp only [Rep] at h1
  obtain ⟨_, b', hb', rfl⟩ := h1
  simp only [Option.some.injEq] at hb'
  subst hb'
  obtain ⟨c, F', h3, h4, _, _⟩ := h.row hj
  obtain ⟨es, Fe, e1, e2, e3, e4, _⟩ := h3.get hv
  have hFe := plain_foot _ _ _ e3 (by simpa [plainV] using hp)
  subst hFe
  refine ⟨.agg es.toArray, ?_, es, e3, rfl⟩
  have hr : (loadVar T ⟨b, i * n, none⟩).run P w = .ok (.agg es.toArray) w := by
    refine run_loadAgg (by rw [e1]; exact hk) fun q hq => ?_
    refine h4.cell ?_
    rw [e4 q (e1 ▸ hq), List.getElem?_eq_getElem hq]
  have hX : a.eval x = .pointer (some ⟨b, i * n, none⟩) := by rw [h2]; simp [wrapV]
  simp only [execOp, hX, Instr.loadAt, Instr.sureAddr]
  exact run_value (by simpa using hr)
theorem Yields.load_ptr_one {T : TypeId} {x : Operand} {i b j m : Nat} {xs : List AV} {v : AV} (hk : kindT P T = some (false, m)) (hx : aev s x = some (.ptr (some b) i 0 1)) (hj : s.hp[j]? = some (some b, ⟨1, xs⟩))
    (hv : xs[i]? = some v) (ha : isAggV v = false) (hp : plainV v = true) : Yields P C s (.load T x) ty v := by
  intro d pos after a w ok F h
  obtain ⟨c0, h1, h2⟩ := h.ev hx
  simp only [Rep] at h1
  obtain ⟨_, b', hb', rfl⟩ := h1
  simp only [Option.some.injEq] at hb'
  subst hb'
  obtain ⟨c, F', h3, h4, _, _⟩ := h.row hj
  obtain ⟨es, Fe, e1, e2, e3, e4, _⟩ := h3.get hv
  obtain ⟨u, rfl⟩ : ∃ u, es = [u] := by
    match es, e1 with
    | [u], _ => exact ⟨u, rfl⟩
  have hFe := plain_foot _ _ _ e3 hp
  subst hFe
  refine ⟨u, ?_, [u], e3, (wrap_one ha u).symm⟩
  have e5 := e4 0 Nat.one_pos
  have hr : (loadVar T ⟨b, i * 1 + 0, none⟩).run P w = .ok u w := run_loadOne hk (h4.cell (by rw [e5]; rfl))
  have hX : a.eval x = .pointer (some ⟨b, i * 1 + 0, none⟩) := by rw [h2]; simp [wrapV]
  simp only [execOp, hX, Instr.loadAt, Instr.sureAddr]
  exact run_value (by simpa using hr)
theorem Yields.load_ptr_field {T : TypeId} {x : Operand} {n i f b j m : Nat} {xs cs : List AV} {v : AV} (hk : kindT P T = some (false, m)) (hx : aev s x = some (.ptr (some b) i f n)) (hf : Nat.blt f n = true)
    (hj : s.hp[j]? = some (some b, ⟨n, xs⟩)) (hv : xs[i]? = some (.agg cs)) (hc : cs[f]? = some v) (ha : isAggV v = false) (hp : plainV v = true) : Yields P C s (.load T x) ty v := by
  intro d pos after a w ok F h
  have hf' : f < n := by simpa using hf
  obtain ⟨c0, h1, h2⟩ := h.ev hx
  simp only [Rep] at h1
  obtain ⟨_, b', hb', rfl⟩ := h1
  simp only [Option.some.injEq] at hb'
  subst hb'
  obtain ⟨c, F', h3, h4, _, _⟩ := h.row hj
  obtain ⟨es, Fe, e1, e2, e3, e4, _⟩ := h3.get hv
  obtain ⟨u, Fu, g1, g2, g3, g4⟩ := rep_agg_get e3 hc
  have hFe := plain_foot _ _ _ g2 hp
  subst hFe
  refine ⟨u, ?_, [u], g2, (wrap_one ha u).symm⟩
  have hr : (loadVar T ⟨b, i * n + f, none⟩).run P w = .ok u w := run_loadOne hk (h4.cell (by rw [e4 f hf', g1]))
  have hX : a.eval x = .pointer (some ⟨b, i * n + f, none⟩) := by rw [h2]; simp [wrapV]
  simp only [execOp, hX, Instr.loadAt, Instr.sureAddr]
  exact run_value (by simpa using hr)
end
theorem keeps_alloc {w : World} {ok : Nat → Prop} (hok : ∀ b, ok b → b < w.heap.size) {F : List Nat} (hF : ∀ b ∈ F, b < w.heap.size) (o : Obj) : Keeps w (w.alloc o) ok ok F := by
  have hh : ∀ b, b < w.heap.size → (w.alloc o).heap[b]? = w.heap[b]? := fun b hb => Go.RowKit.Below.heap_alloc w o b hb
  refine ⟨fun b hb => ⟨hb, hh b (hok b hb)⟩, fun b hb => hh b (hF b hb), fun b m hb => ?_⟩
  exact hb.keep (hh b hb.lt)
theorem RelX.alloc {C : Ctx} {s : St} {a : Act} {w : World} {ok : Nat → Prop} {F : List Nat} (h : RelX C s a w ok F) {T n : Nat} {xs : List AV} {cells : List Value} {sp : List Value} (hc : RepL w ok n xs cells []) :
    RelX C ⟨s.tm, (some w.heap.size, ⟨n, xs⟩) :: s.hp⟩ a (w.alloc (.cells (cells ++ sp).toArray T)) ok (w.heap.size :: F) := by
  have hok : ∀ b, ok b → b < w.heap.size := fun b hb => (h.okOf b hb).1
  have hk : Keeps w (w.alloc (.cells (cells ++ sp).toArray T)) ok ok F := keeps_alloc hok (fun b hb => (h.own b hb).2.2) _
  refine { size := h.size, defers := h.defers, tm := h.tmKeep (hk.sub (by simp)), hp := ?_, nodup := ?_, own := ?_, okOf := ?_, ok0 := h.ok0, frame := ?_, grown := ?_, room := fun b m hb => hk.room b m (h.room b m hb), os := h.os, tape := h.tape, output := h.output, gl := h.gl, low := h.low, sep := h.sep }
  · refine ⟨[w.heap.size], F, rfl, ⟨cells, [], RepL.keep _ _ _ _ (hk.sub (by simp)) hc, ?_, rfl⟩, h.hp.keep hk⟩
    exact ⟨(cells ++ sp).toArray, T, by show (w.heap.push _)[w.heap.size]? = _; simp, by simp, Nat.zero_le _⟩
  · refine List.nodup_cons.2 ⟨fun hb => ?_, h.nodup⟩
    have := (h.own _ hb).2.2
    omega
  · intro b hb
    rcases List.mem_cons.1 hb with rfl | hb
    · exact ⟨.inr h.grown, fun hh => by have := hok _ hh; omega, by simp⟩
    · obtain ⟨h1, h2, h3⟩ := h.own b hb
      exact ⟨h1, h2, by simp; omega⟩
  · intro b hb
    obtain ⟨h1, h2⟩ := h.okOf b hb
    exact ⟨by simp; omega, h2⟩
  · intro k hk1 hk2
    rw [Go.RowKit.Below.heap_alloc w _ k (by have := h.grown; omega)]
    exact h.frame k hk1 hk2
  · simp; have := h.grown; omega
def width : AV → Nat
  | .agg vs => vs.length
  | _ => 1
theorem rep_width {w : World} {ok : Nat → Prop} {a : AV} {cs : List Value} {F : List Nat} (h : Rep w ok a cs F) (hu : a ≠ .undef) : cs.length = width a := by
  cases a with
  | undef => exact absurd rfl hu
  | val v => simp only [Rep] at h; simp [h.2.1, width]
  | ptr => simp only [Rep] at h; obtain ⟨_, _, _, rfl⟩ := h; rfl
  | rop => simp only [Rep] at h; obtain ⟨_, _, _, _, rfl, _⟩ := h; rfl
  | optr => simp only [Rep] at h; obtain ⟨_, _, _, rfl, _⟩ := h; rfl
  | loc b => cases b <;> simp only [Rep] at h
             · obtain ⟨_, _, _, _, rfl⟩ := h; rfl
             · obtain ⟨_, _, rfl, _⟩ := h; rfl
  | ro => simp only [Rep] at h; obtain ⟨_, _, _, _, _, rfl, _⟩ := h; rfl
  | own =>
    simp only [Rep] at h
    rcases h with ⟨_, _, _, rfl⟩ | ⟨_, _, _, _, _, _, rfl, _⟩ <;> rfl
  | agg vs => simp only [Rep] at h; simp [h.length, width]
  | tup => simp only [Rep] at h; obtain ⟨_, rfl, _⟩ := h; rfl
  | fn => simp only [Rep] at h; obtain ⟨_, rfl, _⟩ := h; rfl
def cellV : AV → Bool
  | .undef => false
  | .tup _ => false
  | _ => true
theorem rep_cells {w : World} {ok : Nat → Prop} {a : AV} {cs : List Value} {F : List Nat} (h : Rep w ok a cs F) (hc : cellV a = true) : ∀ v ∈ cs, v.oneCell' = true := by
  cases a with
  | undef => simp [cellV] at hc
  | val v => simp only [Rep] at h; simp [h.2.1, h.2.2]
  | ptr => simp only [Rep] at h; obtain ⟨_, _, _, rfl⟩ := h; simp [Value.oneCell']
  | rop => simp only [Rep] at h; obtain ⟨_, _, _, _, rfl, _⟩ := h; simp [Value.oneCell']
  | optr => simp only [Rep] at h; obtain ⟨_, _, _, rfl, _⟩ := h; simp [Value.oneCell']
  | loc b => cases b <;> simp only [Rep] at h
             · obtain ⟨_, _, _, _, rfl⟩ := h; simp [Value.oneCell']
             · obtain ⟨_, _, rfl, _⟩ := h; simp [Value.oneCell']
  | ro => simp only [Rep] at h; obtain ⟨_, _, _, _, _, rfl, _⟩ := h; simp [Value.oneCell']
  | own =>
    simp only [Rep] at h
    rcases h with ⟨_, _, _, rfl⟩ | ⟨_, _, _, _, _, _, rfl, _⟩ <;> simp [Value.oneCell']
  | agg vs => simp only [Rep] at h; exact h.one
  | tup => simp [cellV] at hc
  | fn => simp only [Rep] at h; obtain ⟨_, rfl, _⟩ := h; simp [Value.oneCell']
theorem wrap_cells {w : World} {ok : Nat → Prop} {a : AV} {cs : List Value} {F : List Nat} (h : Rep w ok a cs F) (hc : cellV a = true) : (wrapV a cs).cells = cs.toArray := by
  have h1 := rep_cells h hc
  have h2 := rep_width h (by rintro rfl; simp [cellV] at hc)
  cases a with
  | agg vs => rfl
  | undef => simp [cellV] at hc
  | tup => simp [cellV] at hc
  | _ =>
    simp only [width] at h2
    match cs, h2 with
    | [u], _ =>
      have := h1 u (by simp)
      simp only [wrapV, List.headD_cons]
      cases u <;> first | rfl | (simp [Value.oneCell'] at this)
theorem AOps.box {P : Program} {C : Ctx} {ops : Array Oper} {K : St → Prop} {s : St} {d : Nat} {T ty : TypeId} {x : Operand} {pos : String} {after : Array Edge} {rest : List Oper} {v : AV} {n : Nat}
    (hd : Nat.blt d C.nt = true) (hx : aev s x = some v) (hc : cellV v = true) (hn : width v = n) (h : ∀ b : Nat, AOps P C ops rest K ⟨(d, .ptr (some b) 0 0 n) :: s.tm, (some b, ⟨n, [v]⟩) :: s.hp⟩) :
    AOps P C ops (⟨some d, .box T x, ty, pos, after, none⟩ :: rest) K s := by
  intro Q a w hQ ⟨ok, F, hr⟩
  obtain ⟨cs, h1, h2⟩ := hr.ev hx
  have hl : cs.length = n := by rw [← hn]; exact rep_width h1 (by rintro rfl; simp [cellV] at hc)
  have hrl : RepL w ok n [v] cs [] := by
    simp only [RepL]
    exact ⟨cs, [], [], [], by simp, rfl, hl, rep_cells h1 hc, h1, rfl, rfl⟩
  have hr2 := hr.alloc (T := T) (sp := []) hrl
  have hrun : (Instr.box T (a.eval x)).run P w = .ok (.pointer (some ⟨w.heap.size, 0, none⟩)) (w.alloc (.cells (cs ++ []).toArray T)) := by
    simp only [Instr.box, newVar, newRow, h2, wrap_cells h1 hc, Sem.run_bind, run_newObj, Result.andThen_ok, Sem.run_pure, List.append_nil]
    rfl
  refine wpList_value rfl (run_value hrun) (h w.heap.size Q _ _ hQ ⟨ok, _, hr2.put (by simpa using hd) ?_⟩)
  exact ⟨[.pointer (some ⟨w.heap.size, 0, none⟩)], by simp only [Rep]; exact ⟨trivial, w.heap.size, rfl, by simp⟩, rfl⟩
theorem AOps.alloc {P : Program} {C : Ctx} {ops : Array Oper} {K : St → Prop} {s : St} {d : Nat} {T ty : TypeId} {pos : String} {after : Array Edge} {rest : List Oper} {z : Value} {n : Nat}
    (hd : Nat.blt d C.nt = true) (hz : zeroT P T = some z) (hc : constOk z = true) (hn : width (avOf z) = n) (h : ∀ b : Nat, AOps P C ops rest K ⟨(d, .ptr (some b) 0 0 n) :: s.tm, (some b, ⟨n, [avOf z]⟩) :: s.hp⟩) :
    AOps P C ops (⟨some d, .alloc T, ty, pos, after, none⟩ :: rest) K s := by
  intro Q a w hQ ⟨ok, F, hr⟩
  obtain ⟨cs, h1, h2⟩ := repV_avOf w ok z hc
  have hcv : cellV (avOf z) = true := by cases z <;> first | rfl | (simp [constOk, Value.oneCell'] at hc)
  have hl : cs.length = n := by rw [← hn]; exact rep_width h1 (by intro e; rw [e] at hcv; simp [cellV] at hcv)
  have hrl : RepL w ok n [avOf z] cs [] := by
    simp only [RepL]
    exact ⟨cs, [], [], [], by simp, rfl, hl, rep_cells h1 hcv, h1, rfl, rfl⟩
  have hr2 := hr.alloc (T := T) (sp := []) hrl
  have hrun : (Instr.alloc T true (.tuple #[])).run P w = .ok (.pointer (some ⟨w.heap.size, 0, none⟩)) (w.alloc (.cells (cs ++ []).toArray T)) := by
    have hzc : z.cells = cs.toArray := by rw [h2]; exact wrap_cells h1 hcv
    simp only [Instr.alloc, newVar, newRow, hzc, Sem.run_bind, run_zero' hz, run_newObj, Result.andThen_ok, Sem.run_pure, List.append_nil]
    rfl
  refine wpList_value rfl (run_value hrun) (h w.heap.size Q _ _ hQ ⟨ok, _, hr2.put (by simpa using hd) ?_⟩)
  exact ⟨[.pointer (some ⟨w.heap.size, 0, none⟩)], by simp only [Rep]; exact ⟨trivial, w.heap.size, rfl, by simp⟩, rfl⟩
end Go.Ax
namespace Go.Ax
structure Wrote (w w' : World) (b : Nat) (o : Obj) : Prop where
  at_ : w'.heap[b]? = some o
  other : ∀ k, k ≠ b → w'.heap[k]? = w.heap[k]?
  size : w'.heap.size = w.heap.size
  os : w'.os = w.os
  tape : w'.tape = w.tape
  output : w'.output = w.output
def ovw (arr : Array Value) (o : Nat) : List Value → Array Value
  | [] => arr
  | v :: vs => ovw (arr.setIfInBounds o v) (o + 1) vs
theorem ovw_size : ∀ (vs : List Value) (arr : Array Value) (o : Nat), (ovw arr o vs).size = arr.size
  | [], _, _ => rfl
  | v :: vs, arr, o => by simp [ovw, ovw_size vs]
theorem ovw_toList : ∀ (vs : List Value) (arr : Array Value) (o : Nat), o + vs.length ≤ arr.size → (ovw arr o vs).toList = arr.toList.take o ++ (vs ++ arr.toList.drop (o + vs.length))
  | [], arr, o, h => by simp [ovw]
  | v :: vs, arr, o, h => by
    simp only [List.length_cons] at h
    rw [ovw, ovw_toList vs _ _ (by simp; omega)]
    have hl : o < arr.toList.length := by simp; omega
    simp only [Array.toList_setIfInBounds, List.length_cons]
    rw [List.take_set, List.drop_set]
    have e1 : (arr.toList.take (o + 1)).set o v = arr.toList.take o ++ [v] := by
      rw [List.take_succ_eq_append_getElem hl, List.set_append_right _ _ (by simp; omega)]
      simp
      rw [Nat.min_eq_left (by simpa using Nat.le_of_lt hl)]
      simp
    rw [e1, if_pos (by omega)]
    simp only [List.append_assoc, List.singleton_append, List.cons_append]
    have e2 : o + 1 + vs.length = o + (vs.length + 1) := by omega
    rw [e2, List.nil_append]
theorem run_storeCells {P : Program} {b o : Nat} {t : TypeId} : ∀ (vs : List Value) (i : Nat) (w : World) (arr : Array Value), w.heap[b]? = some (.cells arr t (0, 0)) → o + i + vs.length ≤ arr.size → (∀ v ∈ vs, v.oneCell' = true) →
    ∃ w', (storeCells ⟨b, o, none⟩ vs i).run P w = .ok () w' ∧ Wrote w w' b (.cells (ovw arr (o + i) vs) t (0, 0))
  | [], i, w, arr, h, _, _ => ⟨w, by simp [storeCells], h, fun _ _ => rfl, rfl, rfl, rfl, rfl⟩
  | v :: vs, i, w, arr, h, hl, ho => by
    simp only [List.length_cons] at hl
    have hc : ∃ u, w.cell? ⟨b, o + i, none⟩ = some u := by
      refine ⟨arr[o + i]'(by omega), ?_⟩
      simp only [World.cell?, h, Option.isSome_none, Bool.false_eq_true, if_false]
      exact Array.getElem?_eq_getElem (by omega)
    obtain ⟨u, hu⟩ := hc
    have hf : w.frozen? ⟨b, o + i, none⟩ = false := by simp [World.frozen?, h]
    have h1 : (w.setCell ⟨b, o + i, none⟩ v).heap[b]? = some (.cells (arr.setIfInBounds (o + i) v) t (0, 0)) := by
      simp only [World.setCell, Array.getElem?_modify, if_true, h, Option.map_some, Option.isSome_none, Bool.false_eq_true, if_false]
    obtain ⟨w', h2, h3⟩ := run_storeCells (P := P) (o := o) vs (i + 1) (w.setCell ⟨b, o + i, none⟩ v) _ h1 (by simp; omega) (fun x hx => ho x (by simp [hx]))
    refine ⟨w', ?_, ?_⟩
    · simp only [storeCells, Addr.add_lit, Sem.run_bind, run_store P w _ v _ (ho v (by simp)), hu, hf, Bool.false_eq_true, if_false, Result.andThen_ok]
      exact h2
    · refine ⟨h3.at_, fun k hk => ?_, ?_, h3.os, h3.tape, h3.output⟩
      · rw [h3.other k hk, Go.RowKit.Below.heap_setCell _ _ _ _ hk]
      · rw [h3.size]; simp [World.setCell]
theorem Wrote.room {w w' : World} {b : Nat} {arr arr' : Array Value} {t : TypeId} (h : Wrote w w' b (.cells arr' t (0, 0))) (h0 : w.heap[b]? = some (.cells arr t (0, 0))) (hs : arr.size ≤ arr'.size) :
    ∀ k m, BlkAt w k [] m → BlkAt w' k [] m := by
  intro k m hk
  by_cases e : k = b
  · subst e
    obtain ⟨a1, t1, g1, g2, g3⟩ := hk
    rw [h0] at g1
    simp only [Option.some.injEq, Obj.cells.injEq] at g1
    obtain ⟨rfl, rfl, _⟩ := g1
    exact ⟨arr', t, h.at_, by simp, by omega⟩
  · exact hk.keep (h.other k e)
theorem RelX.write {C : Ctx} {s : St} {a : Act} {w w' : World} {ok : Nat → Prop} {F : List Nat} (h : RelX C s a w ok F) {j b : Nat} {r : Row} (hj : s.hp[j]? = some (some b, r)) {r' : Row}
    {arr' : Array Value} {t : TypeId} (hw : Wrote w w' b (.cells arr' t (0, 0))) (hroom : ∀ arr t0, w.heap[b]? = some (.cells arr t0 (0, 0)) → arr.size ≤ arr'.size ∧ t0 = t)
    (hr : ∀ cells F', RepL w ok r.n r.xs cells F' → BlkAt w b cells 0 → ∃ cells' F'', RepL w ok r'.n r'.xs cells' F'' ∧ cells' <+: arr'.toList ∧ F''.Sublist F') :
    ∃ F2, RelX C ⟨s.tm, s.hp.set j (some b, r')⟩ a w' ok F2 := by
  obtain ⟨Fp, Fr, Fq, rfl, ⟨cells, F', h2, h3, rfl⟩, h5⟩ := h.hp.at hj
  obtain ⟨cells', F'', h6, h7, h8⟩ := hr cells F' h2 h3
  obtain ⟨arr0, t0, g1, g2, g3⟩ := h3
  obtain ⟨q1, rfl⟩ := hroom _ _ g1
  have hnd := h.nodup
  have hb : b ∉ Fp ++ (F' ++ Fq) := by
    simp only [List.cons_append] at hnd
    have := (List.nodup_append.1 hnd)
    have h9 := this.2.1
    have h10 := this.2.2
    intro hh
    rcases List.mem_append.1 hh with hh | hh
    · exact h10 b hh b (by simp) rfl
    · exact (List.nodup_cons.1 h9).1 hh
  have hbF : b ∈ Fp ++ (b :: F' ++ Fq) := by simp
  have hnok : ¬ ok b := (h.own b hbF).2.1
  have hk : ∀ G : List Nat, (∀ x ∈ G, x ≠ b) → Keeps w w' ok ok G := fun G hG =>
    ⟨fun x hx => ⟨hx, hw.other x (fun e => hnok (e ▸ hx))⟩, fun x hx => hw.other x (hG x hx), hw.room g1 q1⟩
  have hne : ∀ x, x ∈ Fp ++ (F' ++ Fq) → x ≠ b := fun x hx e => hb (e ▸ hx)
  have hsub : (Fp ++ (b :: F'' ++ Fq)).Sublist (Fp ++ (b :: F' ++ Fq)) := (List.Sublist.refl _).append ((h8.cons_cons b).append (List.Sublist.refl _))
  refine ⟨Fp ++ (b :: F'' ++ Fq), { size := h.size, defers := h.defers, tm := h.tmKeep (hk [] (by simp)), hp := ?_, nodup := hsub.nodup hnd, own := ?_, okOf := ?_, ok0 := h.ok0, frame := ?_, grown := ?_, room := fun k m hb => hw.room g1 q1 k m (h.room k m hb), os := hw.os.trans h.os, tape := hw.tape.trans h.tape, output := hw.output.trans h.output, gl := h.gl, low := h.low, sep := h.sep }⟩
  · refine h5 w' ok (some b) r' (b :: F'') (hk _ fun x hx => hne x (by rcases List.mem_append.1 hx with hx | hx <;> simp [hx])) ⟨cells', F'', RepL.keep _ _ _ _ (hk _ fun x hx => hne x (by simp [h8.subset hx])) h6, ?_, rfl⟩
    exact ⟨arr', t0, hw.at_, h7, Nat.zero_le _⟩
  · intro x hx
    have := h.own x (hsub.subset hx)
    rw [hw.size]; exact this
  · intro x hx
    rw [hw.size]; exact h.okOf x hx
  · intro k hk1 hk2
    rw [hw.other k (fun e => by
      subst e
      rcases (h.own k hbF).1 with h' | h'
      · exact hk2 h'
      · omega)]
    exact h.frame k hk1 hk2
  · rw [hw.size]; exact h.grown
theorem RepL.focus {w : World} {ok : Nat → Prop} {n : Nat} : ∀ {xs : List AV} {c : List Value} {F : List Nat} {i : Nat} {old : AV}, RepL w ok n xs c F → xs[i]? = some old →
    ∃ es Fe Fp Fq, F = Fp ++ (Fe ++ Fq) ∧ Rep w ok old es Fe ∧ es.length = n ∧ (∀ x ∈ es, x.oneCell' = true) ∧ i * n + n ≤ c.length ∧ (∀ j, j < n → c[i * n + j]? = es[j]?) ∧
      ∀ v es' Fe', Rep w ok v es' Fe' → es'.length = n → (∀ x ∈ es', x.oneCell' = true) → RepL w ok n (xs.set i v) (c.take (i * n) ++ (es' ++ c.drop (i * n + n))) (Fp ++ (Fe' ++ Fq))
  | [], c, F, i, old, h, hi => by simp at hi
  | a :: as, c, F, 0, old, h, hi => by
    simp only [List.getElem?_cons_zero, Option.some.injEq] at hi
    subst hi
    simp only [RepL] at h
    obtain ⟨c1, c2, F1, F2, rfl, rfl, h1, h0, h2, h3⟩ := h
    refine ⟨c1, F1, [], F2, rfl, h2, h1, h0, by simp [h1], fun j hj => ?_, fun v es' Fe' e1 e2 e3 => ?_⟩
    · rw [List.getElem?_append_left (by omega)]; simp
    · simp only [List.set_cons_zero, Nat.zero_mul, List.take_zero, List.nil_append, Nat.zero_add, RepL]
      rw [List.drop_left' h1]
      exact ⟨es', c2, Fe', F2, rfl, rfl, e2, e3, e1, h3⟩
  | a :: as, c, F, i + 1, old, h, hi => by
    simp only [List.getElem?_cons_succ] at hi
    simp only [RepL] at h
    obtain ⟨c1, c2, F1, F2, rfl, rfl, h1, h0, h2, h3⟩ := h
    obtain ⟨es, Fe, Fp, Fq, rfl, e1, e2, e3, e4, e6, e5⟩ := RepL.focus h3 hi
    have e7 : (i + 1) * n = n + i * n := by rw [Nat.succ_mul]; omega
    refine ⟨es, Fe, F1 ++ Fp, Fq, by simp, e1, e2, e3, by simp only [List.length_append, h1]; omega, fun j hj => ?_, fun v es' Fe' g1 g2 g3 => ?_⟩
    · rw [← e6 j hj, List.getElem?_append_right (by omega)]
      congr 1
      omega
    · simp only [List.set_cons_succ, RepL]
      refine ⟨c1, c2.take (i * n) ++ (es' ++ c2.drop (i * n + n)), F1, Fp ++ (Fe' ++ Fq), ?_, by simp, h1, h0, h2, e5 v es' Fe' g1 g2 g3⟩
      rw [e7, ← h1, List.take_length_add_append, Nat.add_assoc, List.drop_length_add_append]
      simp
theorem prefix_ovw {cells es : List Value} {arr : Array Value} {k n : Nat} (h : cells <+: arr.toList) (hl : es.length = n) (hk : k + n ≤ cells.length) :
    (cells.take k ++ (es ++ cells.drop (k + n))) <+: (ovw arr k es).toList := by
  obtain ⟨tl, ht⟩ := h
  have hs : cells.length + tl.length = arr.size := by
    have := congrArg List.length ht
    simpa using this
  rw [ovw_toList es arr k (by omega), ← ht]
  refine ⟨tl, ?_⟩
  rw [List.take_append_of_le_length (by omega), hl, List.drop_append_of_le_length hk]
  simp
theorem run_storeVar {P : Program} {T : TypeId} {g : Bool} {n b o : Nat} {w : World} {arr : Array Value} {t : TypeId} {v : Value} {cs : List Value} (hk : kindT P T = some (g, n)) (hv : v.cells = cs.toArray) (hl : cs.length = n)
    (hb : w.heap[b]? = some (.cells arr t (0, 0))) (ho : ∀ x ∈ cs, x.oneCell' = true) (hs : o + n ≤ arr.size) :
    ∃ w', (storeVar T ⟨b, o, none⟩ v).run P w = .ok () w' ∧ Wrote w w' b (.cells (ovw arr o cs) t (0, 0)) := by
  obtain ⟨_, i, h2, h3⟩ := kindT_agg hk
  obtain ⟨w', h4, h5⟩ := run_storeCells (P := P) (o := o) cs 0 w arr hb (by omega) ho
  refine ⟨w', ?_, by simpa using h5⟩
  unfold storeVar
  simp only [Sem.run_bind, run_sizeOf' h2, Result.andThen_ok, hv, h3, List.size_toArray, hl, ne_eq, not_true, if_false]
  exact h4
theorem run_unit {P : Program} {e : Sem Unit} {w w' : World} (h : e.run P w = .ok () w') : (do e; pure Next.skip : Sem Next).run P w = .ok .skip w' := by
  rw [Sem.run_bind, h]; rfl
theorem AOps.store {P : Program} {C : Ctx} {ops : Array Oper} {K : St → Prop} {s : St} {T ty : TypeId} {x y : Operand} {pos : String} {after : Array Edge} {rest : List Oper} {g : Bool} {v old : AV} {n i j b : Nat} {xs : List AV}
    (hk : kindT P T = some (g, n)) (hx : aev s x = some (.ptr (some b) i 0 n)) (hj : s.hp[j]? = some (some b, ⟨n, xs⟩)) (hi : xs[i]? = some old) (hy : aev s y = some v) (hc : cellV v = true) (hn : width v = n)
    (h : AOps P C ops rest K ⟨s.tm, s.hp.set j (some b, ⟨n, xs.set i v⟩)⟩) : AOps P C ops (⟨none, .store T x y, ty, pos, after, none⟩ :: rest) K s := by
  intro Q a w hQ ⟨ok, F, hr⟩
  obtain ⟨c0, h1, h2⟩ := hr.ev hx
  simp only [Rep] at h1
  obtain ⟨_, b', hb', rfl⟩ := h1
  simp only [Option.some.injEq] at hb'
  subst hb'
  obtain ⟨cs, h3, h4⟩ := hr.ev hy
  have ho := rep_cells h3 hc
  have hl : cs.length = n := by rw [← hn]; exact rep_width h3 (by rintro rfl; simp [cellV] at hc)
  obtain ⟨cells, F', r1, r2, _, _⟩ := hr.row hj
  obtain ⟨_, _, _, _, _, _, _, _, e4, _, _⟩ := r1.focus hi
  obtain ⟨arr, t, g1, g2, g3⟩ := r2
  have hlen : cells.length ≤ arr.size := by simpa using g2.length_le
  obtain ⟨w', hw1, hw2⟩ := run_storeVar (P := P) (T := T) (o := i * n) (v := a.eval y) hk (by rw [h4]; exact wrap_cells h3 hc) hl g1 ho (Nat.le_trans e4 hlen)
  have hX : a.eval x = .pointer (some ⟨b, i * n, none⟩) := by rw [h2]; simp [wrapV]
  obtain ⟨F2, hr2⟩ := hr.write hj (r' := ⟨n, xs.set i v⟩) hw2 (fun a0 t0 q => by
      rw [g1] at q; simp only [Option.some.injEq, Obj.cells.injEq] at q; obtain ⟨rfl, rfl, _⟩ := q; exact ⟨by rw [ovw_size]; exact Nat.le_refl _, rfl⟩)
    (fun cells0 F0 q1 q2 => by
      obtain ⟨es, Fe, Fp, Fq, rfl, k1, k2, k3, k4, _, k5⟩ := q1.focus hi
      obtain ⟨arr1, t1, p1, p2, _⟩ := q2
      rw [g1] at p1; simp only [Option.some.injEq, Obj.cells.injEq] at p1; obtain ⟨rfl, rfl, _⟩ := p1
      exact ⟨_, _, k5 v cs [] h3 hl ho, prefix_ovw p2 hl k4, (List.Sublist.refl _).append ((List.nil_sublist _).append (List.Sublist.refl _))⟩)
  refine wpList_skipped (w' := w') rfl ?_ (h Q _ _ hQ ⟨ok, F2, hr2⟩)
  simp only [execOp, hX, Instr.storeAt, Instr.sureAddr]
  exact run_unit (by simpa using hw1)
theorem Rep.aggSet {w : World} {ok : Nat → Prop} {cs : List AV} {es : List Value} {F : List Nat} (h : Rep w ok (.agg cs) es F) {f : Nat} {old v : AV} (hf : cs[f]? = some old) {u : Value} (hv : Rep w ok v [u] []) (ho : u.oneCell' = true) :
    ∃ F', Rep w ok (.agg (cs.set f v)) (es.take f ++ ([u] ++ es.drop (f + 1))) F' ∧ F'.Sublist F := by
  simp only [Rep] at h ⊢
  obtain ⟨d, Fe, Fp, Fq, rfl, k1, k2, k3, k4, _, k5⟩ := h.focus hf
  have := k5 v [u] [] hv rfl (by simpa using ho)
  simp only [Nat.mul_one] at this
  exact ⟨_, this, (List.Sublist.refl _).append ((List.nil_sublist _).append (List.Sublist.refl _))⟩
theorem AOps.storeField {P : Program} {C : Ctx} {ops : Array Oper} {K : St → Prop} {s : St} {T ty : TypeId} {x y : Operand} {pos : String} {after : Array Edge} {rest : List Oper} {v old : AV} {n i f j b : Nat} {xs cs : List AV}
    (hk : kindT P T = some (false, 1)) (hx : aev s x = some (.ptr (some b) i f n)) (hj : s.hp[j]? = some (some b, ⟨n, xs⟩)) (hi : xs[i]? = some (.agg cs)) (hf : cs[f]? = some old) (hy : aev s y = some v) (hc : cellV v = true) (ha : isAggV v = false)
    (h : AOps P C ops rest K ⟨s.tm, s.hp.set j (some b, ⟨n, xs.set i (.agg (cs.set f v))⟩)⟩) : AOps P C ops (⟨none, .store T x y, ty, pos, after, none⟩ :: rest) K s := by
  intro Q a w hQ ⟨ok, F, hr⟩
  obtain ⟨c0, h1, h2⟩ := hr.ev hx
  simp only [Rep] at h1
  obtain ⟨_, b', hb', rfl⟩ := h1
  simp only [Option.some.injEq] at hb'
  subst hb'
  obtain ⟨es0, h3, h4⟩ := hr.ev hy
  have ho := rep_cells h3 hc
  have hw1 : width v = 1 := by cases v <;> first | rfl | (simp [isAggV] at ha)
  have hl : es0.length = 1 := by rw [← hw1]; exact rep_width h3 (by rintro rfl; simp [cellV] at hc)
  obtain ⟨u, rfl⟩ : ∃ u, es0 = [u] := by
    match es0, hl with
    | [u], _ => exact ⟨u, rfl⟩
  obtain ⟨cells, F', r1, r2, _, _⟩ := hr.row hj
  obtain ⟨es, Fe, Fp, Fq, _, d1, d2, d3, e4, e6, _⟩ := r1.focus hi
  obtain ⟨arr, t, g1, g2, g3⟩ := r2
  have hlen : cells.length ≤ arr.size := by simpa using g2.length_le
  have hfl : f < n := by
    simp only [Rep] at d1
    have := d1.length
    have h9 : f < cs.length := (List.getElem?_eq_some_iff.1 hf).1
    simp at d2; omega
  obtain ⟨w', hw1, hw2⟩ := run_storeVar (P := P) (T := T) (o := i * n + f) (v := a.eval y) hk (by rw [h4]; exact wrap_cells h3 hc) hl g1 ho (by simp at e4; omega)
  have hX : a.eval x = .pointer (some ⟨b, i * n + f, none⟩) := by rw [h2]; simp [wrapV]
  obtain ⟨F2, hr2⟩ := hr.write hj (r' := ⟨n, xs.set i (.agg (cs.set f v))⟩) hw2 (fun a0 t0 q => by
      rw [g1] at q; simp only [Option.some.injEq, Obj.cells.injEq] at q; obtain ⟨rfl, rfl, _⟩ := q; exact ⟨by rw [ovw_size]; exact Nat.le_refl _, rfl⟩)
    (fun cells0 F0 q1 q2 => by
      obtain ⟨es, Fe, Fp, Fq, rfl, k1, k2, k3, k4, k6, k5⟩ := q1.focus hi
      obtain ⟨arr1, t1, p1, p2, _⟩ := q2
      rw [g1] at p1; simp only [Option.some.injEq, Obj.cells.injEq] at p1; obtain ⟨rfl, rfl, _⟩ := p1
      simp only at k2 k4 k6
      obtain ⟨F3, m1, m2⟩ := k1.aggSet hf h3 (ho u (by simp))
      have ml : (es.take f ++ ([u] ++ es.drop (f + 1))).length = n := by simp; omega
      have m3 := k5 _ _ _ m1 ml (fun x hx => by
        rcases List.mem_append.1 hx with hx | hx
        · exact k3 x (List.mem_of_mem_take hx)
        · rcases List.mem_append.1 hx with hx | hx
          · exact ho x hx
          · exact k3 x (List.mem_of_mem_drop hx))
      refine ⟨_, _, m3, ?_, (List.Sublist.refl _).append (m2.append (List.Sublist.refl _))⟩
      have m4 := prefix_ovw (k := i * n + f) (n := 1) p2 (es := [u]) rfl (by omega)
      have m5 : cells0.take (i * n) ++ ((es.take f ++ ([u] ++ es.drop (f + 1))) ++ cells0.drop (i * n + n)) = cells0.take (i * n + f) ++ ([u] ++ cells0.drop (i * n + f + 1)) := by
        have m6 : es = (cells0.drop (i * n)).take n := by
          refine List.ext_getElem? fun q => ?_
          rw [List.getElem?_take]
          by_cases hq : q < n
          · rw [if_pos hq, List.getElem?_drop]; exact (k6 q hq).symm
          · rw [if_neg hq, List.getElem?_eq_none (by omega)]
        rw [m6, List.take_take, Nat.min_eq_left (by omega), List.drop_take, List.drop_drop]
        rw [List.take_add]
        simp only [List.append_assoc]
        congr 1
        congr 1
        congr 1
        have m7 : cells0.drop (i * n + n) = (cells0.drop (i * n + (f + 1))).drop (n - (f + 1)) := by rw [List.drop_drop]; congr 1; omega
        rw [m7, List.take_append_drop, Nat.add_assoc]
      rw [m5]; exact m4)
  refine wpList_skipped (w' := w') rfl ?_ (h Q _ _ hQ ⟨ok, F2, hr2⟩)
  simp only [execOp, hX, Instr.storeAt, Instr.sureAddr]
  exact run_unit (by simpa using hw1)
end Go.Ax
namespace Go.Ax
def Qseq (N : St → Prop) (Q : Exit → St → Prop) : Exit → St → Prop
  | .normal, s => N s
  | e, s => Q e s
def Qblk (id : Nat) (Q : Exit → St → Prop) : Exit → St → Prop
  | .exit i, s => if i = id then Q .normal s else Q (.exit i) s
  | e, s => Q e s
section
variable {P : Program} {C : Ctx} {Q : Exit → St → Prop} {s : St}
theorem AWP.skip (h : Q .normal s) : AWP P C .skip Q s := fun R a w hR hr => wp_skip (hR _ _ _ _ hr h)
theorem AWP.ret (h : Q .ret s) : AWP P C .ret Q s := fun R a w hR hr => wp_ret (hR _ _ _ _ hr h)
theorem AWP.exit {id : Nat} (h : Q (.exit id) s) : AWP P C (.exit id) Q s := fun R a w hR hr => wp_exit (hR _ _ _ _ hr h)
theorem AWP.seq {x y : Code} (h : AWP P C x (Qseq (AWP P C y Q) Q) s) : AWP P C (.seq x y) Q s := by
  intro R a w hR hr
  refine wp_seq (h _ a w ?_ hr)
  intro e s' a' w' hr' hq
  cases e <;> first | exact hq R a' w' hR hr' | exact hR _ _ _ _ hr' hq
theorem AWP.block {id : Nat} {c : Code} (h : AWP P C c (Qblk id Q) s) : AWP P C (.block id c) Q s := by
  intro R a w hR hr
  refine wp_block (h _ a w ?_ hr)
  intro e s' a' w' hr' hq
  cases e with
  | exit i =>
    simp only [Qblk, Exit.inBlock] at hq ⊢
    split
    · rename_i e; rw [if_pos e] at hq; exact hR _ _ _ _ hr' hq
    · rename_i e; rw [if_neg e] at hq; exact hR _ _ _ _ hr' hq
  | _ => exact hR _ _ _ _ hr' hq
theorem AWP.cond {c : Operand} {x y : Code} {b : Bool} (hc : aev s c = some (.val (.bool b))) (ht : b = true → AWP P C x Q s) (hf : b = false → AWP P C y Q s) : AWP P C (.cond c x y) Q s := by
  intro R a w hR hr
  have hv : a.eval c = .bool b := by obtain ⟨ok, F, hx⟩ := hr; exact hx.val hc
  exact wp_cond_split hv (fun hb => ht hb R a w hR hr) (fun hb => hf hb R a w hR hr)
theorem AWP.region {id : Nat} {l : List Oper} (h : AOps P C l.toArray l (fun s' => Q .normal s') s) : AWP P C (.region id l.toArray false) Q s :=
  fun R a w hR hr => wp_region_lit (h R a w (fun s' a' w' hr' hk => hR _ _ _ _ hr' hk) hr)
theorem AWP.loop {c : Code} (I : Nat → St → Prop) {n : Nat} (h0 : I n s) (h : ∀ n s, I n s → AWP P C c (Qseq (fun s' => ∃ m, m < n ∧ I m s') Q) s) : AWP P C (.loop c) Q s := by
  intro R a w hR hr
  have key : ∀ (b : Frame) (k : List Item) (cs : List Frame) (n : Nat) (s : St) (a : Act) (w : World), Rel C s a w → I n s →
      ∃ e a' w', R e a' w' ∧ Arrives P (lone (b.at a (.code c :: .inLoop c :: k)) cs w) b k cs e a' w' := by
    intro b k cs n
    induction n using Nat.strongRecOn with
    | _ n ih =>
      intro s a w hr hI
      obtain ⟨e, a₁, w₁, hq, harr⟩ := h n s hI (fun e a' w' => ∃ s', Rel C s' a' w' ∧ Qseq (fun s' => ∃ m, m < n ∧ I m s') Q e s') a w (fun e s' a' w' h1 h2 => ⟨s', h1, h2⟩) hr b (.inLoop c :: k) cs
      obtain ⟨s₁, hr₁, hq⟩ := hq
      cases e with
      | normal =>
        obtain ⟨m, hm, hI₁⟩ := hq
        obtain ⟨e₂, a₂, w₂, hq₂, harr₂⟩ := ih m hm s₁ a₁ w₁ hr₁ hI₁
        exact ⟨e₂, a₂, w₂, hq₂, .of_steps (Steps.trans harr (.one step_inLoop)) harr₂⟩
      | _ => exact ⟨_, a₁, w₁, hR _ _ _ _ hr₁ hq, .pass (x := .inLoop c) rfl (fun _ _ => .inl (by simp)) harr⟩
  intro b k cs
  obtain ⟨e, a', w', hq, harr⟩ := key b k cs n s a w hr h0
  exact ⟨e, a', w', hq, .of_steps (.one step_loop) harr⟩
def Leads (C : Ctx) (s s' : St) : Prop := ∀ a w, Rel C s a w → Rel C s' a w
theorem AWP.leads {c : Code} {s' : St} (hs : Leads C s s') (h : AWP P C c Q s') : AWP P C c Q s := fun R a w hR hr => h R a w hR (hs a w hr)
theorem AOps.leads {ops : Array Oper} {l : List Oper} {K : St → Prop} {s' : St} (hs : Leads C s s') (h : AOps P C ops l K s') : AOps P C ops l K s := fun R a w hR hr => h R a w hR (hs a w hr)
theorem AWP.mono {c : Code} {Q' : Exit → St → Prop} (hq : ∀ e s', Q' e s' → Q e s') (h : AWP P C c Q' s) : AWP P C c Q s := fun R a w hR hr => h R a w (fun e s' a' w' h1 h2 => hR e s' a' w' h1 (hq _ _ h2)) hr
end
def subT (tm : List (Nat × AV)) : List (Nat × AV) → Prop
  | [] => True
  | (t, v) :: r => look tm t = some v ∧ subT tm r
theorem look_sub {tm : List (Nat × AV)} : ∀ {r : List (Nat × AV)}, subT tm r → ∀ t v, look r t = some v → look tm t = some v
  | [], _, t, v, h => by simp [look] at h
  | (k, u) :: r, h, t, v, hl => by
    rw [look_cons] at hl
    by_cases e : k = t
    · subst e; simp only [if_true, Option.some.injEq] at hl; subst hl; exact h.1
    · rw [if_neg e] at hl; exact look_sub h.2 t v hl
theorem Leads.tm {C : Ctx} {s : St} {tm : List (Nat × AV)} (h : subT s.tm tm) : Leads C s ⟨tm, s.hp⟩ :=
  fun a w ⟨ok, F, hr⟩ => ⟨ok, F, { hr with tm := fun t v ht => hr.tm t v (look_sub h t v ht) }⟩
theorem Leads.noRows {C : Ctx} {s : St} {tm : List (Nat × AV)} (h : subT s.tm tm) : Leads C s ⟨tm, []⟩ :=
  fun a w ⟨ok, F, hr⟩ => ⟨ok, [], { hr with tm := fun t v ht => hr.tm t v (look_sub h t v ht), hp := rfl, nodup := List.nodup_nil, own := by simp }⟩
def AC (P : Program) (g : GL) (f : FuncId) (ps : List AV) (r : AV) (outs : List AV) : Prop :=
  ∀ (w : World) (vs : List Value) (F : List Nat) (ok : Nat → Prop), RepT w ok ps vs F → F.Nodup → (∀ b ∈ F, ¬ ok b ∧ b < w.heap.size) → (∀ b, ok b → b < w.heap.size) → g.holds w → (∀ b, b < g.low → ok b) →
    Calls P f vs.toArray w fun e w' => ∃ v Fr Fo ok', e = .returned v ∧ RepV w' ok' r v Fr ∧ RepT w' ok' outs vs Fo ∧ (Fr ++ Fo).Nodup ∧
      (∀ b ∈ Fr ++ Fo, (b ∈ F ∨ w.heap.size ≤ b) ∧ ¬ ok' b ∧ b < w'.heap.size) ∧ (∀ b, ok b → ok' b) ∧ (∀ b, ok' b → (ok b ∨ w.heap.size ≤ b) ∧ b < w'.heap.size) ∧
      (∀ k, k < w.heap.size → k ∉ F → w'.heap[k]? = w.heap[k]?) ∧ w.heap.size ≤ w'.heap.size ∧ w'.os = w.os ∧ w'.tape = w.tape ∧ w'.output = w.output ∧ (∀ b m, BlkAt w b [] m → BlkAt w' b [] m)
def Ent (P : Program) (f : FuncId) : Prop := ∃ fn, P.funcs[f]? = some fn ∧ fn.body.isNone = false ∧ (fn.name == "runtime.NumGoroutine") = false
structure AF (P : Program) (g : GL) (f : FuncId) (ps : List AV) (r : AV) (outs : List AV) : Prop where
  ent : Ent P f
  calls : AC P g f ps r outs
def noOuts (ps : List AV) : List AV := ps.map fun _ => .undef
theorem repT_length {w : World} {ok : Nat → Prop} : ∀ {ps : List AV} {vs : List Value} {F : List Nat}, RepT w ok ps vs F → vs.length = ps.length
  | [], vs, F, h => by simp only [RepT] at h; simp [h.1]
  | a :: as, vs, F, h => by
    simp only [RepT] at h
    obtain ⟨v, vs', c1, F1, F2, rfl, rfl, h2, h1, h3⟩ := h
    simp [repT_length h3]
theorem repT_undef {w : World} {ok : Nat → Prop} : ∀ (ps : List AV) (vs : List Value), vs.length = ps.length → RepT w ok (noOuts ps) vs []
  | [], [], _ => by simp [noOuts, RepT]
  | a :: as, v :: vs, h => by
    simp only [noOuts, List.map_cons, RepT]
    exact ⟨v, vs, [v], [], [], rfl, rfl, by simp [Rep], rfl, repT_undef as vs (by simpa using h)⟩
def enumF : Nat → List AV → List (Nat × AV)
  | _, [] => []
  | i, a :: as => (i, a) :: enumF (i + 1) as
theorem look_enum {w : World} {ok : Nat → Prop} : ∀ (ps : List AV) (vs : List Value) (i : Nat) (pre tl : List Value), RepT w ok ps vs [] → pre.length = i → ∀ t v, look (enumF i ps) t = some v → RepV w ok v ((pre ++ (vs ++ tl)).getD t undef) []
  | [], vs, i, pre, tl, h, hi, t, v, hl => by simp [enumF, look] at hl
  | a :: as, vs, i, pre, tl, h, hi, t, v, hl => by
    simp only [RepT] at h
    obtain ⟨u, vs', c1, F1, F2, rfl, hF, h2, h1, h3⟩ := h
    obtain ⟨rfl, rfl⟩ := List.append_eq_nil_iff.1 hF.symm
    rw [enumF, look_cons] at hl
    by_cases e : i = t
    · subst e
      simp only [if_true, Option.some.injEq] at hl
      subst hl
      subst hi
      have : (pre ++ (u :: vs' ++ tl)).getD pre.length undef = u := by simp [List.getD_eq_getElem?_getD]
      rw [this]
      exact ⟨c1, h2, h1⟩
    · rw [if_neg e] at hl
      have := look_enum as vs' (i + 1) (pre ++ [u]) tl h3 (by simp [hi]) t v hl
      simpa using this
def RetIs (P : Program) (fn : Func) (s : St) (r : AV) : Prop :=
  ∀ C a w ok F, RelX C s a w ok F → ∃ v Fr ok', (results fn a.tmps).run P w = .ok v w ∧ RepV w ok' r v Fr ∧ Fr.Nodup ∧ (∀ b ∈ Fr, b ∈ F ∧ ¬ ok' b) ∧ (∀ b, ok b → ok' b) ∧ (∀ b, ok' b → ok b ∨ b ∈ F)
theorem RetIs.one {P : Program} {fn : Func} {s : St} {r : AV} {t : Nat} (h : fn.results = #[.tmp t]) (hl : look s.tm t = some r) : RetIs P fn s r := by
  intro C a w ok F hr
  exact ⟨_, [], ok, results_tmp h a.tmps P w, hr.tm t r hl, List.nodup_nil, by simp, fun _ h => h, fun _ h => .inl h⟩
theorem RetIs.two {P : Program} {fn : Func} {s : St} {r1 r2 : AV} {t u : Nat} (h : fn.results = #[.tmp t, .tmp u]) (hl : look s.tm t = some r1) (hm : look s.tm u = some r2) : RetIs P fn s (.tup [r1, r2]) := by
  intro C a w ok F hr
  obtain ⟨c1, g1, g2⟩ := hr.tm t r1 hl
  obtain ⟨c2, g3, g4⟩ := hr.tm u r2 hm
  refine ⟨_, [], ok, results_tmp2 h a.tmps P w, ⟨[.tuple #[a.tmps.getD t undef, a.tmps.getD u undef]], ?_, rfl⟩, List.nodup_nil, by simp, fun _ h => h, fun _ h => .inl h⟩
  simp only [Rep]
  refine ⟨[a.tmps.getD t undef, a.tmps.getD u undef], rfl, ?_⟩
  simp only [RepT]
  exact ⟨_, _, c1, [], [], rfl, rfl, g1, g2, _, _, c2, [], [], rfl, rfl, g3, g4, rfl, rfl⟩
theorem AF.intro {P : Program} {g : GL} {f : FuncId} {fn : Func} {c : Code} {ps : List AV} {r : AV} {nt : Nat} (hf : P.funcs[f]? = some fn) (hname : (fn.name == "runtime.NumGoroutine") = false) (hb : fn.body = some c) (hn : fn.ntmps = nt) (hp : plainL ps = true) (hl : Nat.ble ps.length nt = true)
    (h : ∀ w0 ok0, AWP P ⟨g, nt, w0, ok0, [], False⟩ c (fun e s' => (e = .ret ∨ e = .normal) ∧ RetIs P fn s' r) ⟨enumF 0 ps, []⟩) : AF P g f ps r (noOuts ps) := by
  refine ⟨⟨fn, hf, by rw [hb]; rfl, hname⟩, ?_⟩
  intro w vs F ok hv hF hFo hok hgl hlow
  have hF0 := plainT_foot ps vs F hv hp
  subst hF0
  have hlen := repT_length hv
  have hle : ps.length ≤ nt := by simpa using hl
  refine calls_of_wp hf hb (h w ok _ _ w ?_ ?_)
  · intro e s' a' w' ⟨ok1, F1, hr⟩ ⟨he, hq⟩
    obtain ⟨v, Fr, ok', h1, h2, h3, h4, h5, h6⟩ := hq _ a' w' ok1 F1 hr
    have post : ∃ v1 Fr Fo ok', Ending.returned v = .returned v1 ∧ RepV w' ok' r v1 Fr ∧ RepT w' ok' (noOuts ps) vs Fo ∧ (Fr ++ Fo).Nodup ∧
      (∀ b ∈ Fr ++ Fo, (b ∈ ([] : List Nat) ∨ w.heap.size ≤ b) ∧ ¬ ok' b ∧ b < w'.heap.size) ∧ (∀ b, ok b → ok' b) ∧ (∀ b, ok' b → (ok b ∨ w.heap.size ≤ b) ∧ b < w'.heap.size) ∧
      (∀ k, k < w.heap.size → k ∉ ([] : List Nat) → w'.heap[k]? = w.heap[k]?) ∧ w.heap.size ≤ w'.heap.size ∧ w'.os = w.os ∧ w'.tape = w.tape ∧ w'.output = w.output ∧ (∀ b m, BlkAt w b [] m → BlkAt w' b [] m) := by
      refine ⟨v, Fr, [], ok', rfl, h2, repT_undef ps vs hlen, by simpa using h3, ?_, fun b hb => h5 b (hr.ok0 b hb), ?_, hr.frame, hr.grown, hr.os, hr.tape, hr.output, hr.room⟩
      · intro b hb
        simp only [List.append_nil] at hb
        obtain ⟨g1, g2⟩ := h4 b hb
        obtain ⟨g3, _, g4⟩ := hr.own b g1
        exact ⟨g3, g2, g4⟩
      · intro b hb
        rcases h6 b hb with g | g
        · obtain ⟨g1, g2⟩ := hr.okOf b g; exact ⟨by simpa using g2, g1⟩
        · obtain ⟨g3, _, g4⟩ := hr.own b g
          exact ⟨.inr (by simpa using g3), g4⟩
    rcases he with rfl | rfl
    · exact ⟨hr.defers, v, h1, post⟩
    · exact ⟨hr.defers, v, h1, post⟩
  · refine ⟨ok, [], { size := ?_, defers := rfl, tm := ?_, hp := rfl, nodup := List.nodup_nil, own := by simp, okOf := fun b hb => ⟨hok b hb, .inl hb⟩, ok0 := fun _ h => h, frame := fun _ _ _ => rfl, grown := Nat.le_refl _, room := fun _ _ h => h, os := rfl, tape := rfl, output := rfl, gl := hgl, low := hlow, sep := fun b hb => ⟨hok b hb, by simp⟩ }⟩
    · simp [hn, hlen]; omega
    · intro t v ht
      have := look_enum ps vs 0 [] (List.replicate (fn.ntmps - vs.length) undef) hv rfl t v ht
      simp only [List.nil_append] at this
      have e : (vs.toArray ++ Array.replicate (fn.ntmps - vs.toArray.size) undef).getD t undef = (vs ++ List.replicate (fn.ntmps - vs.length) undef).getD t undef := by
        simp [Array.getD_eq_getD_getElem?, List.getD_eq_getElem?_getD, ← Array.getElem?_toList]
      show RepV w ok v ((vs.toArray ++ Array.replicate (fn.ntmps - vs.toArray.size) undef).getD t undef) []
      rw [e]; exact this
end Go.Ax
namespace Go.Ax
def Bor (hp : List (Option Nat × Row)) (a p : AV) : Prop :=
  isAggV p = isAggV a ∧ ∀ w ok F cs Fe, HpRep w ok hp F → (∀ x ∈ Fe, x ∈ F) → Rep w ok a cs Fe → Rep w (fun b => ok b ∨ b ∈ F) p cs []
def BorL (hp : List (Option Nat × Row)) : List AV → List AV → Prop
  | [], [] => True
  | a :: as, p :: ps => Bor hp a p ∧ BorL hp as ps
  | _, _ => False
theorem Keeps.more {w : World} {ok ok' : Nat → Prop} (h : ∀ b, ok b → ok' b) (F : List Nat) : Keeps w w ok ok' F := ⟨fun b hb => ⟨h b hb, rfl⟩, fun _ _ => rfl, fun _ _ h => h⟩
theorem Bor.refl {hp : List (Option Nat × Row)} {a : AV} (h : plainV a = true) : Bor hp a a :=
  ⟨rfl, fun w ok F cs Fe _ _ hr => by
    have := plain_foot a cs Fe hr h
    subst this
    exact Rep.keep a cs [] (Keeps.more (fun b hb => .inl hb) []) hr⟩
theorem borL_rep {hp : List (Option Nat × Row)} {w : World} {ok : Nat → Prop} {F : List Nat} (h : HpRep w ok hp F) : ∀ {as ps : List AV} {vs : List Value}, BorL hp as ps → RepT w ok as vs [] → RepT w (fun b => ok b ∨ b ∈ F) ps vs []
  | [], [], vs, _, hr => by simpa only [RepT] using hr
  | a :: as, p :: ps, vs, hb, hr => by
    simp only [RepT] at hr ⊢
    obtain ⟨v, vs', c1, F1, F2, rfl, hF, h2, h1, h3⟩ := hr
    obtain ⟨rfl, rfl⟩ := List.append_eq_nil_iff.1 hF.symm
    refine ⟨v, vs', c1, [], [], rfl, rfl, hb.1.2 w ok F c1 [] h (by simp) h2, ?_, borL_rep h hb.2 h3⟩
    rw [h1]
    have := hb.1.1
    cases a <;> cases p <;> simp [isAggV] at this <;> rfl
  | [], _ :: _, _, h, _ => h.elim
  | _ :: _, [], _, h, _ => h.elim
theorem RelX.after {C : Ctx} {s : St} {a : Act} {w w' : World} {ok ok' : Nat → Prop} {F : List Nat} (h : RelX C s a w ok F) (hok : ∀ b, ok b → ok' b) (hok' : ∀ b, ok' b → (ok b ∨ w.heap.size ≤ b) ∧ b < w'.heap.size)
    (hfr : ∀ k, k < w.heap.size → w'.heap[k]? = w.heap[k]?) (hs : w.heap.size ≤ w'.heap.size) (h1 : w'.os = w.os) (h2 : w'.tape = w.tape) (h3 : w'.output = w.output) : RelX C s a w' ok' F := by
  have hk : Keeps w w' ok ok' F := ⟨fun b hb => ⟨hok b hb, hfr b (h.okOf b hb).1⟩, fun b hb => hfr b (h.own b hb).2.2, fun b m hb => hb.keep (hfr b hb.lt)⟩
  refine { size := h.size, defers := h.defers, tm := h.tmKeep (hk.sub (by simp)), hp := h.hp.keep hk, nodup := h.nodup, own := ?_, okOf := ?_, ok0 := fun b hb => hok b (h.ok0 b hb), frame := ?_, grown := Nat.le_trans h.grown hs, room := fun b m hb => hk.room b m (h.room b m hb), os := h1.trans h.os, tape := h2.trans h.tape, output := h3.trans h.output, gl := h.gl, low := h.low, sep := h.sep }
  · intro b hb
    obtain ⟨g1, g2, g3⟩ := h.own b hb
    refine ⟨g1, fun hh => ?_, by omega⟩
    rcases (hok' b hh).1 with g | g
    · exact g2 g
    · omega
  · intro b hb
    obtain ⟨g1, g2⟩ := hok' b hb
    refine ⟨g2, ?_⟩
    rcases g1 with g | g
    · exact (h.okOf b g).2
    · exact .inr (.inr (Nat.le_trans h.grown g))
  · intro k hk1 hk2
    rw [hfr k (by have := h.grown; omega)]
    exact h.frame k hk1 hk2
def Free (r : AV) : Prop := ∀ w ok ok' cs F, Rep w ok r cs F → Rep w ok' r cs F
def FreeL : List AV → Prop
  | [] => True
  | a :: as => Free a ∧ FreeL as
theorem Free.val {v : Value} : Free (.val v) := fun w ok ok' cs F h => h
theorem freeT_rep {w : World} {ok ok' : Nat → Prop} : ∀ {as : List AV} {vs : List Value} {F : List Nat}, FreeL as → RepT w ok as vs F → RepT w ok' as vs F
  | [], _, _, _, h => h
  | a :: as, vs, F, hf, h => by
    simp only [RepT] at h ⊢
    obtain ⟨v, vs', c1, F1, F2, rfl, rfl, h2, h1, h3⟩ := h
    exact ⟨v, vs', c1, F1, F2, rfl, rfl, hf.1 w ok ok' c1 F1 h2, h1, freeT_rep hf.2 h3⟩
theorem freeL_rep {w : World} {ok ok' : Nat → Prop} {n : Nat} : ∀ {as : List AV} {vs : List Value} {F : List Nat}, FreeL as → RepL w ok n as vs F → RepL w ok' n as vs F
  | [], _, _, _, h => h
  | a :: as, vs, F, hf, h => by
    simp only [RepL] at h ⊢
    obtain ⟨c1, c2, F1, F2, rfl, rfl, h1, h0, h2, h3⟩ := h
    exact ⟨c1, c2, F1, F2, rfl, rfl, h1, h0, hf.1 w ok ok' c1 F1 h2, freeL_rep hf.2 h3⟩
theorem Free.tup {vs : List AV} (h : FreeL vs) : Free (.tup vs) := fun w ok ok' cs F hr => by
  simp only [Rep] at hr ⊢
  obtain ⟨vals, h1, h2⟩ := hr
  exact ⟨vals, h1, freeT_rep h h2⟩
theorem Free.agg {vs : List AV} (h : FreeL vs) : Free (.agg vs) := fun w ok ok' cs F hr => by
  simp only [Rep] at hr ⊢
  exact freeL_rep h hr
theorem Free.own {n : Nat} {xs sp : List AV} (h : FreeL xs) (h' : FreeL sp) : Free (.own n xs sp) := fun w ok ok' cs F hr => by
  simp only [Rep] at hr ⊢
  rcases hr with hr | ⟨b, cap, c1, c2, F1, F2, h1, h2, h3, h4, h5⟩
  · exact .inl hr
  · exact .inr ⟨b, cap, c1, c2, F1, F2, h1, h2, freeL_rep h h3, freeL_rep h' h4, h5⟩
theorem FreeL.vals : ∀ l : List Value, FreeL (l.map .val)
  | [] => trivial
  | v :: l => ⟨Free.val, FreeL.vals l⟩
def aevs (s : St) : List Operand → Option (List AV)
  | [] => some []
  | x :: xs => match aev s x, aevs s xs with
    | some a, some as => some (a :: as)
    | _, _ => none
theorem RelX.evs {C : Ctx} {s : St} {a : Act} {w : World} {ok : Nat → Prop} {F : List Nat} (h : RelX C s a w ok F) : ∀ {l : List Operand} {as : List AV}, aevs s l = some as → RepT w ok as (l.map a.eval) []
  | [], as, ha => by simp only [aevs, Option.some.injEq] at ha; subst ha; simp [RepT]
  | x :: l, as, ha => by
    simp only [aevs] at ha
    split at ha
    · rename_i v as' h1 h2
      simp only [Option.some.injEq] at ha
      subst ha
      obtain ⟨c, g1, g2⟩ := h.ev h1
      simp only [List.map_cons, RepT]
      exact ⟨a.eval x, l.map a.eval, c, [], [], rfl, rfl, g1, g2, RelX.evs h h2⟩
    · cases ha
theorem run_callFunc {P : Program} {f : FuncId} (h : Ent P f) (args : Array Value) (w : World) : (callFunc f args).run P w = .ok (.enter f args) w := by
  obtain ⟨fn, h1, h2, h3⟩ := h
  unfold callFunc
  simp only [Sem.run_bind, run_program, Result.andThen_ok, h1, h2, h3, Bool.false_eq_true, if_false, Sem.run_pure]
theorem wpList_call {P : Program} {ops : Array Oper} {Q : Exit → Act → World → Prop} {d : Option Tmp} {f : FuncId} {l : List Operand} {tys : Array TypeId} {ty : TypeId} {pos : String} {after : Array Edge} {rest : List Oper} {a : Act} {w : World}
    (hE : Ent P f) (h : Calls P f (l.map a.eval).toArray w fun e w' => ∃ v, e = .returned v ∧ wpList P ops Q rest (a.put d v) w') :
    wpList P ops Q (⟨d, .call ⟨.value (.func f), l.toArray, tys⟩, ty, pos, after, none⟩ :: rest) a w := by
  unfold wpList
  rw [if_pos (by simp [Region.wanted])]
  refine .inl ?_
  have hr : (execOp a.eval ⟨d, .call ⟨.value (.func f), l.toArray, tys⟩, ty, pos, after, none⟩).run P w = .ok (.enter f (l.map a.eval).toArray) w := by
    simp only [execOp, resolve, Act.eval, Deferred.ofValue, Sem.run_bind, Sem.run_pure, Result.andThen_ok, invoke]
    simpa using run_callFunc hE (l.map a.eval).toArray w
  unfold Oper.wp
  rw [hr, Oper.upon_enter]
  exact h.mono fun e w' ⟨v, he, hw⟩ => by subst he; exact hw
theorem AOps.call {P : Program} {C : Ctx} {ops : Array Oper} {K : St → Prop} {s : St} {d : Nat} {f : FuncId} {l : List Operand} {tys : Array TypeId} {ty : TypeId} {pos : String} {after : Array Edge} {rest : List Oper} {as ps outs : List AV} {r : AV}
    (hF : AF P C.g f ps r outs) (hd : Nat.blt d C.nt = true) (hx : aevs s l = some as) (hb : BorL s.hp as ps) (hpl : plainV r = true) (hfree : Free r) (h : AOps P C ops rest K ⟨(d, r) :: s.tm, s.hp⟩) :
    AOps P C ops (⟨some d, .call ⟨.value (.func f), l.toArray, tys⟩, ty, pos, after, none⟩ :: rest) K s := by
  intro Q a w hQ ⟨ok, F, hr⟩
  have hv := borL_rep hr.hp hb (hr.evs hx)
  refine wpList_call hF.ent ((hF.calls w _ [] _ hv List.nodup_nil (by simp) ?_ hr.glob (fun b hb => .inl (hr.ok0 b (hr.low b hb)))).mono ?_)
  · intro b hb
    rcases hb with hb | hb
    · exact (hr.okOf b hb).1
    · exact (hr.own b hb).2.2
  · rintro e w' ⟨v, Fr, Fo, ok', rfl, ⟨cs, h1, h2⟩, h3, h4, h5, h6, h7, h8, h9, h10, h11, h12, h13⟩
    have := plain_foot _ _ _ h1 hpl
    subst this
    have hr' := hr.after (ok' := ok) (fun _ h => h) (fun b hb => ⟨.inl hb, by have := (hr.okOf b hb).1; omega⟩) (fun k hk => h8 k hk (by simp)) h9 h10 h11 h12
    exact ⟨v, rfl, h Q _ _ hQ ⟨ok, F, hr'.put (by simpa using hd) ⟨cs, hfree _ _ _ _ _ h1, h2⟩⟩⟩
theorem AOps.callro {P : Program} {C : Ctx} {ops : Array Oper} {K : St → Prop} {s : St} {d : Nat} {f : FuncId} {l : List Operand} {tys : Array TypeId} {ty : TypeId} {pos : String} {after : Array Edge} {rest : List Oper} {ps outs : List AV} {r : AV}
    (hF : AF P C.g f ps r outs) (hd : Nat.blt d C.nt = true) (hx : aevs s l = some ps) (hpl : plainV r = true) (h : AOps P C ops rest K ⟨(d, r) :: s.tm, s.hp⟩) :
    AOps P C ops (⟨some d, .call ⟨.value (.func f), l.toArray, tys⟩, ty, pos, after, none⟩ :: rest) K s := by
  intro Q a w hQ ⟨ok, F, hr⟩
  refine wpList_call hF.ent ((hF.calls w _ [] ok (hr.evs hx) List.nodup_nil (by simp) (fun b hb => (hr.okOf b hb).1) hr.glob (fun b hb => hr.ok0 b (hr.low b hb))).mono ?_)
  rintro e w' ⟨v, Fr, Fo, ok', rfl, ⟨cs, h1, h2⟩, h3, h4, h5, h6, h7, h8, h9, h10, h11, h12, h13⟩
  have := plain_foot _ _ _ h1 hpl
  subst this
  have hr' := hr.after h6 h7 (fun k hk => h8 k hk (by simp)) h9 h10 h11 h12
  exact ⟨v, rfl, h Q _ _ hQ ⟨ok', F, hr'.put (by simpa using hd) ⟨cs, h1, h2⟩⟩⟩
section
variable {P : Program} {C : Ctx} {s : St} {ty : TypeId}
theorem wrap_i64_in {n : Int} (h1 : -9223372036854775808 ≤ n) (h2 : n ≤ 9223372036854775807) : IntKind.i64.wrap n = n := by
  exact Go.IntWalk.i64_in n ⟨h1, h2⟩
theorem BinR.add {t : TypeId} {x y : Operand} {k : IntKind} {a b : Int} : BinR P .add t x y (.int k a) (.int k b) (.int k (k.wrap (a + b))) := fun w => by
  simp [eqGuard_add, binOp_add, Op.intArith]
theorem BinR.sub {t : TypeId} {x y : Operand} {k : IntKind} {a b : Int} : BinR P .sub t x y (.int k a) (.int k b) (.int k (k.wrap (a - b))) := fun w => by
  simp [eqGuard_sub, binOp_sub, Op.intArith]
theorem BinR.mul {t : TypeId} {x y : Operand} {k : IntKind} {a b : Int} : BinR P .mul t x y (.int k a) (.int k b) (.int k (k.wrap (a * b))) := fun w => by
  simp [eqGuard_mul, binOp_mul, Op.intArith]
theorem BinR.addI {t : TypeId} {x y : Operand} {a b : Int} (h1 : -9223372036854775808 ≤ a + b) (h2 : a + b ≤ 9223372036854775807) : BinR P .add t x y (.int .i64 a) (.int .i64 b) (.int .i64 (a + b)) := by
  have := BinR.add (P := P) (t := t) (x := x) (y := y) (k := .i64) (a := a) (b := b)
  rwa [wrap_i64_in h1 h2] at this
theorem BinR.subI {t : TypeId} {x y : Operand} {a b : Int} (h1 : -9223372036854775808 ≤ a - b) (h2 : a - b ≤ 9223372036854775807) : BinR P .sub t x y (.int .i64 a) (.int .i64 b) (.int .i64 (a - b)) := by
  have := BinR.sub (P := P) (t := t) (x := x) (y := y) (k := .i64) (a := a) (b := b)
  rwa [wrap_i64_in h1 h2] at this
theorem BinR.rem {t : TypeId} {x y : Operand} {k : IntKind} {a b : Int} (h : b ≠ 0) : BinR P .rem t x y (.int k a) (.int k b) (.int k (a.tmod b)) := fun w => by
  simp [eqGuard_rem, binOp_rem, Op.intDiv, h]
theorem BinR.quo {t : TypeId} {x y : Operand} {k : IntKind} {a b : Int} (h : b ≠ 0) : BinR P .quo t x y (.int k a) (.int k b) (.int k (k.wrap (a.tdiv b))) := fun w => by
  simp [eqGuard_quo, binOp_quo, Op.intDiv, h]
theorem BinR.eql {t : TypeId} {x y : Operand} {k : IntKind} {a b : Int} : BinR P .eql t x y (.int k a) (.int k b) (.bool (a == b)) := fun w => by
  simp [eqGuard_at_int, binOp_eql]
theorem BinR.neq {t : TypeId} {x y : Operand} {k : IntKind} {a b : Int} : BinR P .neq t x y (.int k a) (.int k b) (.bool (a != b)) := fun w => by
  simp [eqGuard_at_int, binOp_neq]
theorem BinR.lss {t : TypeId} {x y : Operand} {k : IntKind} {a b : Int} : BinR P .lss t x y (.int k a) (.int k b) (.bool (decide (a < b))) := fun w => by
  simp [eqGuard_lss, binOp_lss]
theorem BinR.leq {t : TypeId} {x y : Operand} {k : IntKind} {a b : Int} : BinR P .leq t x y (.int k a) (.int k b) (.bool (decide (a ≤ b))) := fun w => by
  simp [eqGuard_leq, binOp_leq]
theorem BinR.gtr {t : TypeId} {x y : Operand} {k : IntKind} {a b : Int} : BinR P .gtr t x y (.int k a) (.int k b) (.bool (decide (b < a))) := fun w => by
  simp [eqGuard_gtr, binOp_gtr]
theorem BinR.geq {t : TypeId} {x y : Operand} {k : IntKind} {a b : Int} : BinR P .geq t x y (.int k a) (.int k b) (.bool (decide (b ≤ a))) := fun w => by
  simp [eqGuard_geq, binOp_geq]
theorem bytes_eq {a b : ByteArray} : (a.toList == b.toList) = decide (a = b) := by
  rw [ByteArray.toList_eq, ByteArray.toList_eq]
  by_cases h : a = b
  · subst h; simp
  · simp only [h, decide_false, beq_eq_false_iff_ne, ne_eq]
    intro e
    exact h (by cases a; cases b; simpa using e)
theorem BinR.seql {t : TypeId} {x y : Operand} {a b : ByteArray} : BinR P .eql t x y (.string a) (.string b) (.bool (decide (a = b))) := fun w => by
  simp [eqGuard_at_string, binOp, Op.stringOp, bytes_eq]
theorem BinR.sneq {t : TypeId} {x y : Operand} {a b : ByteArray} : BinR P .neq t x y (.string a) (.string b) (.bool (decide (a ≠ b))) := fun w => by
  simp [eqGuard_at_string, binOp, Op.stringOp, bytes_eq]
theorem BinR.sadd {t : TypeId} {x y : Operand} {a b : ByteArray} (h : a.size + b.size ≤ 9223372036854775807) : BinR P .add t x y (.string a) (.string b) (.string (a ++ b)) := fun w => by
  have : ¬ (((a.size + b.size : Nat) : Int) > IntKind.i64.max) := by rw [IntKind.max_i64]; omega
  simp only [eqGuard_add, Sem.run_bind, Sem.run_pure, Result.andThen_ok, binOp, Op.stringOp, if_neg this]
theorem run_equal_bool {t : TypeId} {a b : Bool} (h : P.underlying t = some .bool) (w : World) : (Op.equal t (.bool a) (.bool b)).run P w = .ok (a == b) w := by
  have key : ∀ d, (Op.equalIn (d + 1) t (.bool a) (.bool b)).run P w = .ok (a == b) w := by
    intro d
    unfold Op.equalIn
    simp only [Sem.run_bind, run_underlying h, Result.andThen_ok, Sem.run_pure]
  exact key 9999
theorem BinR.beql {t : TypeId} {x y : Operand} {a b : Bool} (h : P.underlying t = some .bool) : BinR P .eql t x y (.bool a) (.bool b) (.bool (a == b)) := fun w => by
  simp only [eqGuard_at_bool, Sem.run_bind, Sem.run_pure, Result.andThen_ok, binOp, run_equal_bool h]
theorem BinR.bneq {t : TypeId} {x y : Operand} {a b : Bool} (h : P.underlying t = some .bool) : BinR P .neq t x y (.bool a) (.bool b) (.bool (!(a == b))) := fun w => by
  simp only [eqGuard_at_bool, Sem.run_bind, Sem.run_pure, Result.andThen_ok, binOp, run_equal_bool h]
theorem Yields.not {x : Operand} {t : TypeId} {b : Bool} (hx : aev s x = some (.val (.bool b))) : Yields P C s (.unOp .not t x) ty (.val (.bool (!b))) := by
  intro d pos after a w ok F h
  refine ⟨.bool (!b), ?_, repV_val _ _ _ rfl⟩
  simp only [execOp, h.val hx, Op.unary]
  exact run_value rfl
theorem Yields.neg {x : Operand} {t : TypeId} {k : IntKind} {n : Int} (hx : aev s x = some (.val (.int k n))) : Yields P C s (.unOp .neg t x) ty (.val (.int k (k.wrap (0 - n)))) := by
  intro d pos after a w ok F h
  refine ⟨.int k (k.wrap (0 - n)), ?_, repV_val _ _ _ rfl⟩
  simp only [execOp, h.val hx, Op.unary, Op.intArith]
  exact run_value rfl
theorem AOps.cmp {P : Program} {C : Ctx} {ops : Array Oper} {K : St → Prop} {s : St} {d : Nat} {op : Op} {ty : TypeId} {pos : String} {after : Array Edge} {rest : List Oper} {e : Bool}
    (hd : Nat.blt d C.nt = true) (hv : Yields P C s op ty (.val (.bool e))) (h : ∀ b, e = b → AOps P C ops rest K ⟨(d, .val (.bool b)) :: s.tm, s.hp⟩) :
    AOps P C ops (⟨some d, op, ty, pos, after, none⟩ :: rest) K s := AOps.yields hd hv (h e rfl)
theorem Yields.len_str {x : Operand} {t : TypeId} {str : ByteArray} (ht : P.underlying t = some .string) (hx : aev s x = some (.val (.string str))) : Yields P C s (.call ⟨.builtin .len, #[x], #[t]⟩) ty (.val (.int .i64 str.size)) := by
  intro d pos after a w ok F h
  refine ⟨.int .i64 str.size, ?_, repV_val _ _ _ rfl⟩
  simp [execOp, resolve, invoke, builtin, Builtin.len_, run_underlying ht, h.val hx, goInt]
theorem run_len_slice' {t e n bb : Nat} {A : Option Addr} {len cap : Nat} (ht : slElem P t = some (e, n, bb)) (w : World) : (Builtin.len_ #[t] ty #[.slice A len cap]).run P w = .ok (.int .i64 len) w := by
  obtain ⟨h1, _⟩ := slElem_spec ht
  simp [Builtin.len_, run_underlying h1, goInt]
theorem Yields.len_of {x : Operand} {t e n bb : Nat} {v : AV} {len : Nat} (ht : slElem P t = some (e, n, bb)) (hx : aev s x = some v)
    (hv : ∀ w ok cv, RepV w ok v cv [] → ∃ A cap, cv = .slice A len cap) : Yields P C s (.call ⟨.builtin .len, #[x], #[t]⟩) ty (.val (.int .i64 len)) := by
  intro d pos after a w ok F h
  obtain ⟨A, cap, hc⟩ := hv _ _ _ (h.ev hx)
  refine ⟨.int .i64 len, ?_, repV_val _ _ _ rfl⟩
  have := run_len_slice' (ty := ty) (A := A) (len := len) (cap := cap) ht w
  simp only [execOp, resolve, invoke, builtin, Sem.run_bind, Sem.run_pure, Result.andThen_ok, List.map_toArray, List.map_cons, List.map_nil, hc]
  rw [this]; rfl
theorem Yields.len_ro {x : Operand} {t e n bb m : Nat} {xs sp : List AV} {c : Bool} (ht : slElem P t = some (e, n, bb)) (hx : aev s x = some (.ro m xs sp c)) : Yields P C s (.call ⟨.builtin .len, #[x], #[t]⟩) ty (.val (.int .i64 xs.length)) :=
  Yields.len_of ht hx fun w ok cv ⟨cs, h1, h2⟩ => by
    simp only [Rep] at h1
    obtain ⟨_, A, cap, _, _, rfl, _⟩ := h1
    exact ⟨A, cap, h2⟩
theorem Yields.len_loc {x : Operand} {t e n bb off len k m : Nat} {b : Option Nat} (ht : slElem P t = some (e, n, bb)) (hx : aev s x = some (.loc b off len k m)) : Yields P C s (.call ⟨.builtin .len, #[x], #[t]⟩) ty (.val (.int .i64 len)) :=
  Yields.len_of ht hx fun w ok cv ⟨cs, h1, h2⟩ => by
    cases b <;> simp only [Rep] at h1
    · obtain ⟨_, _, rfl, _, rfl⟩ := h1; exact ⟨none, 0, h2⟩
    · obtain ⟨_, cap, rfl, _⟩ := h1; exact ⟨_, cap, h2⟩
theorem Yields.len_nil {x : Operand} {t e n bb : Nat} (ht : slElem P t = some (e, n, bb)) (hx : aev s x = some (.val (.slice none 0 0))) : Yields P C s (.call ⟨.builtin .len, #[x], #[t]⟩) ty (.val (.int .i64 (0 : Nat))) :=
  Yields.len_of ht hx fun w ok cv ⟨cs, h1, h2⟩ => by
    simp only [Rep] at h1
    obtain ⟨_, rfl, _⟩ := h1
    exact ⟨none, 0, h2⟩
theorem Yields.idx_str {x ix : Operand} {t : TypeId} {str : ByteArray} {k : IntKind} {i : Int} {c : UInt8} (ht : P.underlying t = some .string) (hx : aev s x = some (.val (.string str))) (hi : aev s ix = some (.val (.int k i)))
    (h0 : 0 ≤ i) (hc : str.data.toList[i.toNat]? = some c) : Yields P C s (.index t x ix) ty (.val (.int .u8 c.toNat)) := by
  intro d pos after a w ok F h
  refine ⟨.int .u8 c.toNat, ?_, repV_val _ _ _ rfl⟩
  have e : str[i.toNat]? = some c := by
    rw [← hc, Array.getElem?_toList]
    rfl
  simp only [execOp, h.val hx, h.val hi]
  refine run_value ?_
  simp [Instr.index, asIntOf, run_underlying ht, h0, e]
theorem Yields.slice_str {x : Operand} {t : TypeId} {lo hi : Option Operand} {str : ByteArray} {l u : Nat} (ht : P.underlying t = some .string) (hx : aev s x = some (.val (.string str)))
    (hl : match lo with | none => l = 0 | some o => ∃ k, aev s o = some (.val (.int k l))) (hu : match hi with | none => u = str.size | some o => ∃ k, aev s o = some (.val (.int k u))) (h1 : l ≤ u) (h2 : u ≤ str.size) :
    Yields P C s (.slice t x lo hi none) ty (.val (.string (str.extract l u))) := by
  intro d pos after a w ok F h
  refine ⟨.string (str.extract l u), ?_, repV_val _ _ _ rfl⟩
  simp only [execOp, h.val hx]
  refine run_value ?_
  have hb : (Instr.sliceBounds false str.size str.size (lo.map a.eval) (hi.map a.eval) none).run P w = .ok (l, u, str.size) w := by
    cases lo with
    | none =>
      subst hl
      cases hi with
      | none => subst hu; simp [Instr.sliceBounds]
      | some o =>
        obtain ⟨k, hk⟩ := hu
        simp only [Instr.sliceBounds, Option.map_none, Option.map_some, h.val hk, Instr.sliceBound, asIntOf, Sem.run_bind, Sem.run_pure, Result.andThen_ok]
        rw [if_pos (by omega)]
        simp
    | some o' =>
      obtain ⟨k', hk'⟩ := hl
      cases hi with
      | none =>
        subst hu
        simp only [Instr.sliceBounds, Option.map_none, Option.map_some, h.val hk', Instr.sliceBound, asIntOf, Sem.run_bind, Sem.run_pure, Result.andThen_ok]
        rw [if_pos (by omega)]
        simp
      | some o =>
        obtain ⟨k, hk⟩ := hu
        simp only [Instr.sliceBounds, Option.map_none, Option.map_some, h.val hk, h.val hk', Instr.sliceBound, asIntOf, Sem.run_bind, Sem.run_pure, Result.andThen_ok]
        rw [if_pos (by omega)]
        simp only [Sem.run_pure, Result.andThen_ok, Int.toNat_natCast]
        rw [if_pos (by omega)]
        simp
  unfold Instr.sliceAt
  simp only [Sem.run_bind, run_underlying ht, Result.andThen_ok, Instr.slice, Option.map_none, Option.isSome_none, Bool.false_eq_true, if_false, hb, Sem.run_pure]
theorem Yields.extract {x : Operand} {i : Nat} {vs : List AV} {v : AV} (hx : aev s x = some (.tup vs)) (hv : vs[i]? = some v) : Yields P C s (.extract x i) ty v := by
  intro d pos after a w ok F h
  obtain ⟨cs, h1, h2⟩ := h.ev hx
  simp only [Rep] at h1
  obtain ⟨vals, rfl, h3⟩ := h1
  have key : ∀ (vs : List AV) (vals : List Value) (i : Nat), RepT w ok vs vals [] → vs[i]? = some v → ∃ u, vals[i]? = some u ∧ RepV w ok v u [] := by
    intro vs
    induction vs with
    | nil => intro vals i _ hv; simp at hv
    | cons a0 as ih =>
      intro vals i hr hv
      simp only [RepT] at hr
      obtain ⟨u, us, c1, F1, F2, rfl, hF, g2, g1, g3⟩ := hr
      obtain ⟨rfl, rfl⟩ := List.append_eq_nil_iff.1 hF.symm
      cases i with
      | zero => simp at hv; subst hv; exact ⟨u, rfl, c1, g2, g1⟩
      | succ i => exact ih us i g3 (by simpa using hv)
  obtain ⟨u, h4, h5⟩ := key vs vals i h3 hv
  refine ⟨u, ?_, h5⟩
  have hX : a.eval x = .tuple vals.toArray := by rw [h2]; rfl
  simp only [execOp, hX]
  refine run_value ?_
  simp [Instr.extract, h4]
end
end Go.Ax
namespace Go.Ax
section
variable {P : Program} {C : Ctx} {ops : Array Oper} {K : St → Prop} {tm : List (Nat × AV)} {hp : List (Option Nat × Row)} {ty : TypeId}
theorem Leads.same {s : St} {t : Nat} {v v' : AV} (hl : look s.tm t = some v) (e : v = v') : Leads C s ⟨(t, v') :: s.tm, s.hp⟩ := by
  subst e
  intro a w ⟨ok, F, hr⟩
  refine ⟨ok, F, { hr with tm := fun u x hu => ?_ }⟩
  rw [look_cons] at hu
  by_cases e : t = u
  · subst e; simp only [if_true, Option.some.injEq] at hu; subst hu; exact hr.tm t v hl
  · rw [if_neg e] at hu; exact hr.tm u x hu
theorem AOps.split {l : List Oper} {s : St} {b : Bool} (t : Nat) (hl : look s.tm t = some (.val (.bool b)))
    (h1 : b = true → AOps P C ops l K ⟨(t, .val (.bool true)) :: s.tm, s.hp⟩) (h2 : b = false → AOps P C ops l K ⟨(t, .val (.bool false)) :: s.tm, s.hp⟩) : AOps P C ops l K s := by
  cases b with
  | true => exact AOps.leads (Leads.same hl rfl) (h1 rfl)
  | false => exact AOps.leads (Leads.same hl rfl) (h2 rfl)
def guardT (ops : Array Oper) (j : Nat) : Option Nat := (ops[j]?).bind (·.dst)
theorem wanted_eq {C : Ctx} {s : St} {a : Act} {w : World} {ok : Nat → Prop} {F : List Nat} (hr : RelX C s a w ok F) {ops : Array Oper} {o : Oper} {j t : Nat} {want b : Bool} (hg : o.guard = some (j, want))
    (ht : guardT ops j = some t) (hl : look s.tm t = some (.val (.bool b))) : Region.wanted o (yielded ops a.tmps) = (b == want) := by
  have hv : a.tmps.getD t undef = .bool b := by
    obtain ⟨cs, h1, h2⟩ := hr.tm t _ hl
    simp only [Rep] at h1
    obtain ⟨_, rfl, _⟩ := h1
    exact h2
  have hlt : t < a.tmps.size := by
    rcases Nat.lt_or_ge t a.tmps.size with h | h
    · exact h
    · rw [Array.getD_eq_getD_getElem?, Array.getElem?_eq_none h] at hv; simp [undef] at hv
  have hy : yielded ops a.tmps j = some b := by
    unfold guardT at ht
    rw [Array.getD_eq_getD_getElem?] at hv
    unfold yielded
    rw [ht]
    simp only [Option.bind_some]
    rw [Array.getElem?_eq_getElem hlt] at hv ⊢
    simp only [Option.getD_some] at hv
    rw [hv]
  unfold Region.wanted
  rw [hg]
  simp only [hy]
  cases b <;> cases want <;> rfl
theorem AOps.on {s : St} {d : Option Tmp} {op : Op} {pos : String} {after : Array Edge} {rest : List Oper} {j t : Nat} {b : Bool} (ht : guardT ops j = some t) (hl : look s.tm t = some (.val (.bool b)))
    (h : AOps P C ops (⟨d, op, ty, pos, after, none⟩ :: rest) K s) : AOps P C ops (⟨d, op, ty, pos, after, some (j, b)⟩ :: rest) K s := by
  intro Q a w hQ hr
  have h1 := h Q a w hQ hr
  obtain ⟨ok, F, hx⟩ := hr
  have hw := wanted_eq hx (o := ⟨d, op, ty, pos, after, some (j, b)⟩) rfl ht hl
  unfold wpList at h1 ⊢
  rw [if_pos (by rw [hw]; simp)]
  rw [if_pos (by simp [Region.wanted])] at h1
  exact h1
theorem AOps.off {s : St} {d : Nat} {op : Op} {pos : String} {after : Array Edge} {rest : List Oper} {j t : Nat} {b want : Bool} (hd : Nat.blt d C.nt = true) (ht : guardT ops j = some t) (hl : look s.tm t = some (.val (.bool b))) (hne : (b == want) = false)
    (h : AOps P C ops rest K s) (hu : (s.tm.all fun p => !Nat.beq p.1 d) = true) : AOps P C ops (⟨some d, op, ty, pos, after, some (j, want)⟩ :: rest) K s := by
  intro Q a w hQ ⟨ok, F, hx⟩
  have hw := wanted_eq hx (o := ⟨some d, op, ty, pos, after, some (j, want)⟩) rfl ht hl
  unfold wpList
  rw [if_neg (by rw [hw, hne]; simp)]
  refine h Q _ _ hQ ⟨ok, F, ?_⟩
  have hp := hx.put (by simpa using hd) (v := .undef) (cv := undef) ⟨[undef], by simp [Rep], rfl⟩
  refine { hp with tm := fun u x hu' => ?_ }
  have hne2 : ¬ d = u := by
    intro e
    subst e
    have : ∀ (l : List (Nat × AV)), (l.all fun p => !Nat.beq p.1 d) = true → look l d = none := by
      intro l
      induction l with
      | nil => intro _; rfl
      | cons p l ih =>
        intro hl
        simp only [List.all_cons, Bool.and_eq_true, Bool.not_eq_true'] at hl
        simp only [look, hl.1, cond_false]
        exact ih hl.2
    rw [this _ hu] at hu'; cases hu'
  exact hp.tm u x (by rw [look_cons, if_neg hne2]; exact hu')
theorem repV_skipped (w : World) (ok : Nat → Prop) : RepV w ok (.tup []) undef [] := ⟨[.tuple #[]], by simp only [Rep]; exact ⟨[], rfl, by simp [RepT]⟩, rfl⟩
theorem AOps.off' {s : St} {d : Nat} {op : Op} {pos : String} {after : Array Edge} {rest : List Oper} {j t : Nat} {b want : Bool} (hd : Nat.blt d C.nt = true) (ht : guardT ops j = some t) (hl : look s.tm t = some (.val (.bool b))) (hne : (b == want) = false)
    (h : AOps P C ops rest K ⟨(d, .tup []) :: s.tm, s.hp⟩) : AOps P C ops (⟨some d, op, ty, pos, after, some (j, want)⟩ :: rest) K s := by
  intro Q a w hQ ⟨ok, F, hx⟩
  have hw := wanted_eq hx (o := ⟨some d, op, ty, pos, after, some (j, want)⟩) rfl ht hl
  unfold wpList
  rw [if_neg (by rw [hw, hne]; simp)]
  exact h Q _ _ hQ ⟨ok, F, hx.put (by simpa using hd) (repV_skipped w ok)⟩
theorem AOps.offU {s : St} {d : Nat} {op : Op} {pos : String} {after : Array Edge} {rest : List Oper} {j t : Nat} {want : Bool} (hd : Nat.blt d C.nt = true) (ht : guardT ops j = some t) (hl : look s.tm t = some (.tup []))
    (h : AOps P C ops rest K ⟨(d, .tup []) :: s.tm, s.hp⟩) : AOps P C ops (⟨some d, op, ty, pos, after, some (j, want)⟩ :: rest) K s := by
  intro Q a w hQ ⟨ok, F, hx⟩
  have hv : a.tmps.getD t undef = .tuple #[] := by
    obtain ⟨cs, h1, h2⟩ := hx.tm t _ hl
    simp only [Rep] at h1
    obtain ⟨vals, rfl, h3⟩ := h1
    simp only [RepT] at h3
    rw [h2, h3.1]; rfl
  have hw : Region.wanted ⟨some d, op, ty, pos, after, some (j, want)⟩ (yielded ops a.tmps) = false := by
    unfold guardT at ht
    have hy : yielded ops a.tmps j = none := by
      unfold yielded
      rw [ht]
      simp only [Option.bind_some]
      rw [Array.getD_eq_getD_getElem?] at hv
      cases he : a.tmps[t]? with
      | none => rfl
      | some v =>
        rw [he] at hv
        simp only [Option.getD_some] at hv
        subst hv; rfl
    unfold Region.wanted
    simp only [hy]
    rfl
  unfold wpList
  rw [if_neg (by rw [hw]; simp)]
  exact h Q _ _ hQ ⟨ok, F, hx.put (by simpa using hd) (repV_skipped w ok)⟩
theorem Y {d : Nat} {op : Op} {pos : String} {after : Array Edge} {rest : List Oper} {v : AV} (hv : Yields P C ⟨tm, hp⟩ op ty v) (hd : Nat.blt d C.nt = true) (h : AOps P C ops rest K ⟨(d, v) :: tm, hp⟩) :
    AOps P C ops (⟨some d, op, ty, pos, after, none⟩ :: rest) K ⟨tm, hp⟩ := AOps.yields hd hv h
theorem mv {s : St} {x : Operand} {v : AV} (hx : aev s x = some v) : Yields P C s (.move x) ty v := Yields.move hx
theorem ass {s : St} {x : Operand} {v : AV} (hx : aev s x = some v) : Yields P C s (.assign x) ty v := Yields.assign hx
theorem bn {s : St} {op : BinOp} {t : TypeId} {x y : Operand} {yt : TypeId} {a b r : Value} (hx : aev s x = some (.val a)) (hy : aev s y = some (.val b)) (hr : BinR P op t x y a b r) (ho : r.oneCell' = true) :
    Yields P C s (.binOp op t x y yt) ty (.val r) := Yields.bin hx hy ho hr
theorem Yields.idx_roN {s : St} {t e bb : Nat} {x ix : Operand} {n : Nat} {xs sp : List AV} {c : Bool} {k : IntKind} {i : Int} {j : Nat} (h : slElem P t = some (e, n, bb)) (hn : Nat.blt 0 n = true) (hx : aev s x = some (.ro n xs sp c))
    (hi : aev s ix = some (.val (.int k i))) (hij : i = (j : Int)) (h1 : j < xs.length) : Yields P C s (.indexAddr t x ix) ty (.rop n xs j 0) := by
  subst hij
  exact Yields.idx_ro h hn hx hi (by omega) (by omega)
theorem Yields.idx_locN {s : St} {t e bb : Nat} {x ix : Operand} {b : Option Nat} {off len kk n : Nat} {k : IntKind} {i : Int} {j : Nat} (h : slElem P t = some (e, n, bb)) (hx : aev s x = some (.loc b off len kk n))
    (hi : aev s ix = some (.val (.int k i))) (hij : i = (j : Int)) (h1 : j < len) : Yields P C s (.indexAddr t x ix) ty (.ptr b (off + j) 0 n) := by
  subst hij
  exact Yields.idx_loc h hx hi (by omega) (by omega)
theorem Yields.idx_strN {s : St} {x ix : Operand} {t : TypeId} {str : ByteArray} {k : IntKind} {i : Int} {j : Nat} {c : UInt8} (ht : P.underlying t = some .string) (hx : aev s x = some (.val (.string str))) (hi : aev s ix = some (.val (.int k i)))
    (hij : i = (j : Int)) (hc : str.data.toList[j]? = some c) : Yields P C s (.index t x ix) ty (.val (.int .u8 c.toNat)) := by
  subst hij
  exact Yields.idx_str ht hx hi (by omega) (by simpa using hc)
theorem Yields.load_rop_aggV {s : St} {T : TypeId} {x : Operand} {n i : Nat} {xs : List AV} {v : AV} (hk : kindT P T = some (true, n)) (hx : aev s x = some (.rop n xs i 0)) (hv : xs[i]? = some v) (ha : isAggV v = true) :
    Yields P C s (.load T x) ty v := by
  cases v with
  | agg cs => exact Yields.load_rop_agg hk hx hv
  | _ => simp [isAggV] at ha
end
theorem RetIs.oneV {P : Program} {fn : Func} {s : St} {r r' : AV} {t : Nat} (h : fn.results = #[.tmp t]) (hl : look s.tm t = some r') (e : r' = r) : RetIs P fn s r := e ▸ RetIs.one h hl
theorem RetIs.twoV {P : Program} {fn : Func} {s : St} {r r1 r2 : AV} {t u : Nat} (h : fn.results = #[.tmp t, .tmp u]) (hl : look s.tm t = some r1) (hm : look s.tm u = some r2) (e : .tup [r1, r2] = r) : RetIs P fn s r := e ▸ RetIs.two h hl hm
theorem AWP.loopV {P : Program} {C : Ctx} {Q : Exit → St → Prop} {s : St} {c : Code} {α : Type} (S : α → St) (inv : α → Prop) (μ : α → Nat) (a0 : α) (h0 : Leads C s (S a0)) (hi : inv a0)
    (h : ∀ a, inv a → AWP P C c (Qseq (fun s' => ∃ a', μ a' < μ a ∧ inv a' ∧ Leads C s' (S a')) Q) (S a)) : AWP P C (.loop c) Q s := by
  refine AWP.leads h0 (AWP.loop (fun n s => ∃ a, n = μ a ∧ inv a ∧ Leads C s (S a)) (n := μ a0) ⟨a0, rfl, hi, fun _ _ h => h⟩ ?_)
  rintro n s ⟨a, rfl, ha, hl⟩
  refine AWP.leads hl (AWP.mono ?_ (h a ha))
  intro e s' hq
  cases e with
  | normal =>
    obtain ⟨a', h1, h2, h3⟩ := hq
    exact ⟨μ a', h1, a', rfl, h2, h3⟩
  | _ => exact hq
theorem HpRep.drop {w : World} {ok : Nat → Prop} : ∀ (k : Nat) {hp : List (Option Nat × Row)} {F : List Nat}, HpRep w ok hp F → ∃ F', HpRep w ok (hp.drop k) F' ∧ F'.Sublist F
  | 0, hp, F, h => ⟨F, by simpa using h, List.Sublist.refl _⟩
  | k + 1, [], F, h => ⟨F, by simpa using h, List.Sublist.refl _⟩
  | k + 1, (B, r) :: hp, F, h => by
    obtain ⟨F1, F2, rfl, h1, h2⟩ := h
    obtain ⟨F', h3, h4⟩ := HpRep.drop k h2
    exact ⟨F', by simpa using h3, h4.trans (List.sublist_append_right _ _)⟩
theorem Leads.rows {C : Ctx} {s : St} {tm : List (Nat × AV)} (k : Nat) (h : subT s.tm tm) : Leads C s ⟨tm, s.hp.drop k⟩ := by
  intro a w ⟨ok, F, hr⟩
  obtain ⟨F', h1, h2⟩ := hr.hp.drop k
  exact ⟨ok, F', { hr with tm := fun t v ht => hr.tm t v (look_sub h t v ht), hp := h1, nodup := h2.nodup hr.nodup, own := fun b hb => hr.own b (h2.subset hb) }⟩
theorem Leads.trans {C : Ctx} {s s' s'' : St} (h : Leads C s s') (h' : Leads C s' s'') : Leads C s s'' := fun a w hr => h' a w (h a w hr)
theorem Leads.refl {C : Ctx} {s : St} : Leads C s s := fun _ _ h => h
theorem AWP.midT {P : Program} {C : Ctx} {Q : Exit → St → Prop} {s : St} {x y : Code} (tm : List (Nat × AV)) (hp : List (Option Nat × Row)) (h1 : AWP P C x (Qseq (fun s' => Leads C s' ⟨tm, hp⟩) Q) s) (h2 : AWP P C y Q ⟨tm, hp⟩) : AWP P C (.seq x y) Q s :=
  AWP.seq (AWP.mono (fun e s' hq => by cases e <;> first | exact AWP.leads hq h2 | exact hq) h1)
theorem AWP.mid {P : Program} {C : Ctx} {Q : Exit → St → Prop} {s : St} {x y : Code} (M : St → Prop) (h1 : AWP P C x (Qseq M Q) s) (h2 : ∀ s', M s' → AWP P C y Q s') : AWP P C (.seq x y) Q s :=
  AWP.seq (AWP.mono (fun e s' hq => by cases e <;> first | exact h2 _ hq | exact hq) h1)
end Go.Ax
namespace Go.Ax
def View (a p : AV) : Prop :=
  isAggV p = isAggV a ∧ ∀ w (ok ok' : Nat → Prop) cs F, (∀ b, ok b → ok' b) → (∀ b ∈ F, ok' b) → Rep w ok a cs F → Rep w ok' p cs []
def ViewL : List AV → List AV → Prop
  | [], [] => True
  | a :: as, p :: ps => View a p ∧ ViewL as ps
  | _, _ => False
theorem View.refl {a : AV} (h : plainV a = true) : View a a :=
  ⟨rfl, fun w ok ok' cs F hok _ hr => by
    have := plain_foot a cs F hr h
    subst this
    exact Rep.keep a cs [] (Keeps.more hok []) hr⟩
theorem View.bor {hp : List (Option Nat × Row)} {a p : AV} (h : View a p) : Bor hp a p :=
  ⟨h.1, fun w ok F cs Fe _ hF hr => h.2 w ok _ cs Fe (fun b hb => .inl hb) (fun b hb => .inr (hF b hb)) hr⟩
theorem viewL_len : ∀ {as ps : List AV}, ViewL as ps → ps.length = as.length
  | [], [], _ => rfl
  | a :: as, p :: ps, h => by simp [viewL_len h.2]
  | [], _ :: _, h => h.elim
  | _ :: _, [], h => h.elim
theorem viewL_repL {w : World} {ok ok' : Nat → Prop} {n : Nat} (hok : ∀ b, ok b → ok' b) : ∀ {as ps : List AV} {cs : List Value} {F : List Nat}, ViewL as ps → (∀ b ∈ F, ok' b) → RepL w ok n as cs F → RepL w ok' n ps cs []
  | [], [], cs, F, _, _, h => by simp only [RepL] at h ⊢; exact ⟨h.1, trivial⟩
  | a :: as, p :: ps, cs, F, hv, hF, h => by
    simp only [RepL] at h ⊢
    obtain ⟨c1, c2, F1, F2, rfl, rfl, h1, h0, h2, h3⟩ := h
    exact ⟨c1, c2, [], [], rfl, rfl, h1, h0, hv.1.2 w ok ok' c1 F1 hok (fun b hb => hF b (by simp [hb])) h2, viewL_repL hok hv.2 (fun b hb => hF b (by simp [hb])) h3⟩
  | [], _ :: _, _, _, h, _, _ => h.elim
  | _ :: _, [], _, _, h, _, _ => h.elim
theorem viewL_repT {w : World} {ok ok' : Nat → Prop} (hok : ∀ b, ok b → ok' b) : ∀ {as ps : List AV} {vs : List Value} {F : List Nat}, ViewL as ps → (∀ b ∈ F, ok' b) → RepT w ok as vs F → RepT w ok' ps vs []
  | [], [], vs, F, _, _, h => by simp only [RepT] at h ⊢; exact ⟨h.1, trivial⟩
  | a :: as, p :: ps, vs, F, hv, hF, h => by
    simp only [RepT] at h ⊢
    obtain ⟨v, vs', c1, F1, F2, rfl, rfl, h2, h1, h3⟩ := h
    refine ⟨v, vs', c1, [], [], rfl, rfl, hv.1.2 w ok ok' c1 F1 hok (fun b hb => hF b (by simp [hb])) h2, ?_, viewL_repT hok hv.2 (fun b hb => hF b (by simp [hb])) h3⟩
    rw [h1]
    have := hv.1.1
    cases a <;> cases p <;> simp [isAggV] at this <;> rfl
  | [], _ :: _, _, _, h, _, _ => h.elim
  | _ :: _, [], _, _, h, _, _ => h.elim
theorem viewL_refl : ∀ {as : List AV}, plainL as = true → ViewL as as
  | [], _ => trivial
  | a :: as, h => by simp only [plainL, Bool.and_eq_true] at h; exact ⟨.refl h.1, viewL_refl h.2⟩
theorem View.agg {as ps : List AV} (h : ViewL as ps) : View (.agg as) (.agg ps) :=
  ⟨rfl, fun w ok ok' cs F hok hF hr => by simp only [Rep] at hr ⊢; exact viewL_repL hok h hF hr⟩
theorem View.tup {as ps : List AV} (h : ViewL as ps) : View (.tup as) (.tup ps) :=
  ⟨rfl, fun w ok ok' cs F hok hF hr => by
    simp only [Rep] at hr ⊢
    obtain ⟨vals, h1, h2⟩ := hr
    exact ⟨vals, h1, viewL_repT hok h hF h2⟩⟩
theorem BlkAt.ro {w : World} {ok : Nat → Prop} {b m : Nat} {cells : List Value} (h : BlkAt w b cells m) (hb : ok b) : RoAt w ok b 0 cells :=
  ⟨hb, fun j hj => by simpa using h.cell (List.getElem?_eq_getElem hj)⟩
theorem View.own {n : Nat} {xs sp xs' sp' : List AV} (h : ViewL xs xs') (h' : ViewL sp sp') : View (.own n xs sp) (.ro n xs' sp' false) :=
  ⟨rfl, fun w ok ok' cs F hok hF hr => by
    simp only [Rep] at hr ⊢
    rcases hr with ⟨rfl, rfl, rfl, rfl⟩ | ⟨b, cap, c1, c2, F1, F2, rfl, h1, h2, h3, h4, rfl⟩
    · have e1 : xs' = [] := List.length_eq_zero_iff.1 (viewL_len h)
      have e2 : sp' = [] := List.length_eq_zero_iff.1 (viewL_len h')
      subst e1 e2
      exact ⟨trivial, none, 0, [], [], rfl, Nat.le_refl _, by simp, by simp [RepL], by simp [RepL], .inl rfl⟩
    · have l1 := viewL_len h
      have l2 := viewL_len h'
      refine ⟨trivial, some ⟨b, 0, none⟩, cap, c1, c2, by rw [l1], by omega, by simp, viewL_repL hok h (fun x hx => hF x (by simp [hx])) h2, viewL_repL hok h' (fun x hx => hF x (by simp [hx])) h3, .inr ⟨b, 0, rfl, h4.ro (hF b (by simp))⟩⟩⟩
theorem AOps.callv {P : Program} {C : Ctx} {ops : Array Oper} {K : St → Prop} {s : St} {d : Nat} {f : FuncId} {l : List Operand} {tys : Array TypeId} {ty : TypeId} {pos : String} {after : Array Edge} {rest : List Oper} {as ps outs : List AV} {r r' : AV}
    (hF : AF P C.g f ps r outs) (hd : Nat.blt d C.nt = true) (hx : aevs s l = some as) (hb : BorL s.hp as ps) (hfree : Free r) (hv : View r r') (h : AOps P C ops rest K ⟨(d, r') :: s.tm, s.hp⟩) :
    AOps P C ops (⟨some d, .call ⟨.value (.func f), l.toArray, tys⟩, ty, pos, after, none⟩ :: rest) K s := by
  intro Q a w hQ ⟨ok, F, hr⟩
  have hva := borL_rep hr.hp hb (hr.evs hx)
  refine wpList_call hF.ent ((hF.calls w _ [] _ hva List.nodup_nil (by simp) ?_ hr.glob (fun b hb => .inl (hr.ok0 b (hr.low b hb)))).mono ?_)
  · intro b hb
    rcases hb with hb | hb
    · exact (hr.okOf b hb).1
    · exact (hr.own b hb).2.2
  · rintro e w' ⟨v, Fr, Fo, ok', rfl, ⟨cs, h1, h2⟩, h3, h4, h5, h6, h7, h8, h9, h10, h11, h12, h13⟩
    have hnew : ∀ b ∈ Fr, w.heap.size ≤ b ∧ b < w'.heap.size := fun b hb => by
      obtain ⟨g1, _, g3⟩ := h5 b (by simp [hb])
      exact ⟨by simpa using g1, g3⟩
    have hr' := hr.after (ok' := fun b => ok b ∨ b ∈ Fr) (fun _ h => .inl h) (fun b hb => by
      rcases hb with hb | hb
      · exact ⟨Or.inl hb, by have := (hr.okOf b hb).1; omega⟩
      · exact ⟨Or.inr (hnew b hb).1, (hnew b hb).2⟩) (fun k hk => h8 k hk (by simp)) h9 h10 h11 h12
    refine ⟨v, rfl, h Q _ _ hQ ⟨_, F, hr'.put (by simpa using hd) ⟨cs, hv.2 w' ok _ cs Fr (fun _ h => Or.inl h) (fun b hb => Or.inr hb) (hfree _ _ _ _ _ h1), ?_⟩⟩⟩
    rw [h2]
    have := hv.1
    cases r <;> cases r' <;> simp [isAggV] at this <;> rfl
mutual
inductive Opn : AV → AV → List (Option Nat × Row) → Prop
  | plain (a : AV) : plainV a = true → Opn a a []
  | own (n : Nat) (xs sp : List AV) (B : Option Nat) : Opn (.own n xs sp) (.loc B 0 xs.length (xs.length + sp.length) n) [(B, ⟨n, xs ++ sp⟩)]
  | optr (n : Nat) (xs : List AV) (i f b : Nat) : Opn (.optr n xs i f) (.ptr (some b) i f n) [(some b, ⟨n, xs⟩)]
  | fn (f : FuncId) (vs vs' : List AV) (rows : List (Option Nat × Row)) : OpnL vs vs' rows → Opn (.fn f vs) (.fn f vs') rows
  | agg (vs vs' : List AV) (rows : List (Option Nat × Row)) : OpnL vs vs' rows → Opn (.agg vs) (.agg vs') rows
  | tup (vs vs' : List AV) (rows : List (Option Nat × Row)) : OpnL vs vs' rows → Opn (.tup vs) (.tup vs') rows
inductive OpnL : List AV → List AV → List (Option Nat × Row) → Prop
  | nil : OpnL [] [] []
  | cons (a a' : AV) (as as' : List AV) (rows rows' : List (Option Nat × Row)) : Opn a a' rows → OpnL as as' rows' → OpnL (a :: as) (a' :: as') (rows ++ rows')
end
theorem HpRep.append {w : World} {ok : Nat → Prop} : ∀ {h1 h2 : List (Option Nat × Row)} {F G : List Nat}, HpRep w ok h1 F → HpRep w ok h2 G → HpRep w ok (h1 ++ h2) (F ++ G)
  | [], h2, F, G, h, h' => by simp only [HpRep] at h; subst h; simpa using h'
  | (B, r) :: h1, h2, F, G, h, h' => by
    obtain ⟨F1, F2, rfl, g1, g2⟩ := h
    exact ⟨F1, F2 ++ G, by simp, g1, HpRep.append g2 h'⟩
mutual
theorem opn_rep {w : World} {ok : Nat → Prop} : ∀ (a : AV) (cs : List Value) (F : List Nat), Rep w ok a cs F → ∃ a' rows, Opn a a' rows ∧ isAggV a' = isAggV a ∧ Rep w ok a' cs [] ∧ HpRep w ok rows F
  | .own n xs sp, cs, F, h => by
    simp only [Rep] at h
    rcases h with ⟨rfl, rfl, rfl, rfl⟩ | ⟨b, cap, c1, c2, F1, F2, rfl, h1, h2, h3, h4, rfl⟩
    · exact ⟨_, _, .own n [] [] none, rfl, by simp [Rep], [], [], rfl, ⟨rfl, rfl⟩, rfl⟩
    · obtain ⟨arr, t, g1, g2, g3⟩ := h4
      refine ⟨_, _, .own n xs sp (some b), rfl, ?_, b :: (F1 ++ F2), [], by simp, ⟨c1 ++ c2, F1 ++ F2, RepL.append h2 h3, ⟨arr, t, g1, g2, Nat.zero_le _⟩, rfl⟩, rfl⟩
      simp only [Rep]
      exact ⟨trivial, cap, by simp, by omega, h1, arr, t, g1, by simp, by simpa using g3⟩
  | .optr n xs i f, cs, F, h => by
    simp only [Rep] at h
    obtain ⟨b, c, F', rfl, h1, h2, rfl⟩ := h
    refine ⟨_, _, .optr n xs i f b, rfl, by simp [Rep], b :: F', [], by simp, ⟨c, F', h1, h2, rfl⟩, rfl⟩
  | .fn f vs, cs, F, h => by
    simp only [Rep] at h
    obtain ⟨vals, h1, h2⟩ := h
    obtain ⟨vs', rows, g1, g2, g3⟩ := opnT_rep vs vals F h2
    exact ⟨.fn f vs', rows, .fn _ _ _ _ g1, rfl, by simp only [Rep]; exact ⟨vals, h1, g2⟩, g3⟩
  | .agg vs, cs, F, h => by
    simp only [Rep] at h
    obtain ⟨vs', rows, g1, g2, g3⟩ := opnL_rep 1 vs cs F h
    exact ⟨.agg vs', rows, .agg _ _ _ g1, rfl, by simpa only [Rep] using g2, g3⟩
  | .tup vs, cs, F, h => by
    simp only [Rep] at h
    obtain ⟨vals, h1, h2⟩ := h
    obtain ⟨vs', rows, g1, g2, g3⟩ := opnT_rep vs vals F h2
    exact ⟨.tup vs', rows, .tup _ _ _ g1, rfl, by simp only [Rep]; exact ⟨vals, h1, g2⟩, g3⟩
  | .undef, cs, F, h => by have e : F = [] := plain_foot _ _ _ h rfl; subst e; exact ⟨_, [], .plain _ rfl, rfl, h, rfl⟩
  | .val v, cs, F, h => by have e : F = [] := plain_foot _ _ _ h rfl; subst e; exact ⟨_, [], .plain _ rfl, rfl, h, rfl⟩
  | .ptr b i f n, cs, F, h => by have e : F = [] := plain_foot _ _ _ h rfl; subst e; exact ⟨_, [], .plain _ rfl, rfl, h, rfl⟩
  | .rop n xs i f, cs, F, h => by have e : F = [] := plain_foot _ _ _ h rfl; subst e; exact ⟨_, [], .plain _ rfl, rfl, h, rfl⟩
  | .loc b off len k n, cs, F, h => by have e : F = [] := plain_foot _ _ _ h rfl; subst e; exact ⟨_, [], .plain _ rfl, rfl, h, rfl⟩
  | .ro n xs sp c, cs, F, h => by have e : F = [] := plain_foot _ _ _ h rfl; subst e; exact ⟨_, [], .plain _ rfl, rfl, h, rfl⟩
theorem opnL_rep {w : World} {ok : Nat → Prop} (n : Nat) : ∀ (as : List AV) (cs : List Value) (F : List Nat), RepL w ok n as cs F → ∃ as' rows, OpnL as as' rows ∧ RepL w ok n as' cs [] ∧ HpRep w ok rows F
  | [], cs, F, h => by simp only [RepL] at h; obtain ⟨rfl, rfl⟩ := h; exact ⟨[], [], .nil, by simp [RepL], rfl⟩
  | a :: as, cs, F, h => by
    simp only [RepL] at h
    obtain ⟨c1, c2, F1, F2, rfl, rfl, h1, h0, h2, h3⟩ := h
    obtain ⟨a', rows, g1, _, g2, g3⟩ := opn_rep a c1 F1 h2
    obtain ⟨as', rows', k1, k2, k3⟩ := opnL_rep n as c2 F2 h3
    exact ⟨a' :: as', rows ++ rows', .cons _ _ _ _ _ _ g1 k1, by simp only [RepL]; exact ⟨c1, c2, [], [], rfl, rfl, h1, h0, g2, k2⟩, g3.append k3⟩
theorem opnT_rep {w : World} {ok : Nat → Prop} : ∀ (as : List AV) (vs : List Value) (F : List Nat), RepT w ok as vs F → ∃ as' rows, OpnL as as' rows ∧ RepT w ok as' vs [] ∧ HpRep w ok rows F
  | [], vs, F, h => by simp only [RepT] at h; obtain ⟨rfl, rfl⟩ := h; exact ⟨[], [], .nil, by simp [RepT], rfl⟩
  | a :: as, vs, F, h => by
    simp only [RepT] at h
    obtain ⟨v, vs', c1, F1, F2, rfl, rfl, h2, h1, h3⟩ := h
    obtain ⟨a', rows, g1, ga, g2, g3⟩ := opn_rep a c1 F1 h2
    obtain ⟨as', rows', k1, k2, k3⟩ := opnT_rep as vs' F2 h3
    refine ⟨a' :: as', rows ++ rows', .cons _ _ _ _ _ _ g1 k1, ?_, g3.append k3⟩
    simp only [RepT]
    refine ⟨v, vs', c1, [], [], rfl, rfl, g2, ?_, k2⟩
    rw [h1]
    cases a <;> cases a' <;> simp [isAggV] at ga <;> rfl
end
theorem AOps.callo {P : Program} {C : Ctx} {ops : Array Oper} {K : St → Prop} {s : St} {d : Nat} {f : FuncId} {l : List Operand} {tys : Array TypeId} {ty : TypeId} {pos : String} {after : Array Edge} {rest : List Oper} {as ps outs : List AV} {r : AV}
    (hF : AF P C.g f ps r outs) (hd : Nat.blt d C.nt = true) (hx : aevs s l = some as) (hb : BorL s.hp as ps) (hfree : Free r) (h : ∀ r' rows, Opn r r' rows → AOps P C ops rest K ⟨(d, r') :: s.tm, rows ++ s.hp⟩) :
    AOps P C ops (⟨some d, .call ⟨.value (.func f), l.toArray, tys⟩, ty, pos, after, none⟩ :: rest) K s := by
  intro Q a w hQ ⟨ok, F, hr⟩
  have hva := borL_rep hr.hp hb (hr.evs hx)
  refine wpList_call hF.ent ((hF.calls w _ [] _ hva List.nodup_nil (by simp) ?_ hr.glob (fun b hb => .inl (hr.ok0 b (hr.low b hb)))).mono ?_)
  · intro b hb
    rcases hb with hb | hb
    · exact (hr.okOf b hb).1
    · exact (hr.own b hb).2.2
  · rintro e w' ⟨v, Fr, Fo, ok', rfl, ⟨cs, h1, h2⟩, h3, h4, h5, h6, h7, h8, h9, h10, h11, h12, h13⟩
    have hnew : ∀ b ∈ Fr, w.heap.size ≤ b ∧ b < w'.heap.size := fun b hb => by
      obtain ⟨g1, _, g3⟩ := h5 b (by simp [hb])
      exact ⟨by simpa using g1, g3⟩
    have hr' := hr.after (ok' := ok) (fun _ h => h) (fun b hb => ⟨.inl hb, by have := (hr.okOf b hb).1; omega⟩) (fun k hk => h8 k hk (by simp)) h9 h10 h11 h12
    obtain ⟨r', rows, o1, o2, o3, o4⟩ := opn_rep r cs Fr (hfree w' ok' ok cs Fr h1)
    have hr2 : RelX C ⟨s.tm, rows ++ s.hp⟩ a w' ok (Fr ++ F) := by
      refine { hr' with hp := o4.append hr'.hp, nodup := ?_, own := ?_ }
      · refine List.nodup_append.2 ⟨(List.nodup_append.1 h4).1, hr'.nodup, ?_⟩
        intro x hx y hy e
        subst e
        have := (hr.own x hy).2.2
        have := (hnew x hx).1
        omega
      · intro b hb
        rcases List.mem_append.1 hb with hb | hb
        · refine ⟨.inr (Nat.le_trans hr.grown (hnew b hb).1), fun hh => ?_, (hnew b hb).2⟩
          have := (hr.okOf b hh).1
          have := (hnew b hb).1
          omega
        · exact hr'.own b hb
    refine ⟨v, rfl, h r' rows o1 Q _ _ hQ ⟨ok, Fr ++ F, hr2.put (by simpa using hd) ⟨cs, o3, ?_⟩⟩⟩
    rw [h2]
    cases r <;> cases r' <;> simp [isAggV] at o2 <;> rfl
theorem foldl_ovw : ∀ (vs : List Value) (arr : Array Value) (o k : Nat), (vs.zipIdx k).foldl (fun cs (p : Value × Nat) => cs.setIfInBounds (o + p.2) p.1) arr = ovw arr (o + k) vs
  | [], arr, o, k => rfl
  | v :: vs, arr, o, k => by
    simp only [List.zipIdx_cons, List.foldl_cons, ovw]
    rw [foldl_ovw vs _ o (k + 1)]; rfl
def partsL (s : St) : Nat → List (Nat × Operand) → Option (List AV)
  | _, [] => some []
  | k, (i, x) :: r => match Nat.beq i k, aev s x, partsL s (k + 1) r with
    | true, some a, some as => some (a :: as)
    | _, _, _ => none
def allV (p : AV → Bool) : List AV → Bool
  | [] => true
  | a :: as => p a && allV p as
theorem fill_parts {C : Ctx} {s : St} {a : Act} {w : World} {ok : Nat → Prop} {F : List Nat} (hr : RelX C s a w ok F) {n : Nat} : ∀ (parts : List (Nat × Operand)) (k : Nat) (vs : List AV) (arr : Array Value), partsL s k parts = some vs →
    allV (fun v => cellV v && Nat.beq (width v) n) vs = true → (k + parts.length) * n ≤ arr.size →
    ∃ cells, RepL w ok n vs cells [] ∧ Instr.fill (fun i => some (i * n, n)) arr (parts.map fun p => (p.1, a.eval p.2)) = some (ovw arr (k * n) cells)
  | [], k, vs, arr, hp, _, _ => by
    simp only [partsL, Option.some.injEq] at hp
    subst hp
    exact ⟨[], by simp [RepL], rfl⟩
  | (i, x) :: parts, k, vs, arr, hp, hv, hl => by
    simp only [partsL] at hp
    split at hp
    · rename_i v as h1 h2 h3
      simp only [Option.some.injEq] at hp
      subst hp
      have hik : i = k := Nat.eq_of_beq_eq_true h1
      subst hik
      simp only [allV, Bool.and_eq_true] at hv
      obtain ⟨cs, g1, g2⟩ := hr.ev h2
      have hw : cs.length = n := by
        rw [rep_width g1 (by rintro rfl; simp [cellV] at hv)]
        exact Nat.eq_of_beq_eq_true hv.1.2
      have hcells := wrap_cells g1 hv.1.1
      simp only [List.length_cons] at hl
      have hmul : (i + 1) * n = i * n + n := by rw [Nat.succ_mul]
      have hmul2 : (i + (parts.length + 1)) * n = (i + 1 + parts.length) * n := by congr 1; omega
      have hmul3 : (i + 1 + parts.length) * n = (i + 1) * n + parts.length * n := Nat.add_mul ..
      obtain ⟨cells, k1, k2⟩ := fill_parts hr parts (i + 1) as (ovw arr (i * n) cs) h3 hv.2 (by rw [ovw_size]; omega)
      refine ⟨cs ++ cells, ?_, ?_⟩
      · simp only [RepL]
        exact ⟨cs, cells, [], [], rfl, rfl, hw, rep_cells g1 hv.1.1, g1, k1⟩
      · simp only [List.map_cons, Instr.fill, g2, hcells]
        have hsz : cs.toArray.size = n := by simpa using hw
        rw [if_neg (by simp only [hsz, ne_eq, not_true, decide_false, Bool.false_or, decide_eq_true_eq]; omega)]
        have e : (cs.toArray.zipIdx.foldl (fun (cs : Array Value) (p : Value × Nat) => cs.setIfInBounds (i * n + p.2) p.1) arr) = ovw arr (i * n) cs := by
          have := foldl_ovw cs arr (i * n) 0
          simpa using this
        have e2 : ∀ (l1 l2 : List Value) (arr : Array Value) (o : Nat), ovw arr o (l1 ++ l2) = ovw (ovw arr o l1) (o + l1.length) l2 := by
          intro l1
          induction l1 with
          | nil => intro l2 arr o; rfl
          | cons v l1 ih => intro l2 arr o; simp only [List.cons_append, ovw, List.length_cons]; rw [ih]; congr 1; omega
        have e3 : (i + 1) * n = i * n + cs.length := by rw [hw, hmul]
        rw [e2, ← e3, ← k2]
        congr 1
    · cases hp
theorem AOps.buildSlice {P : Program} {C : Ctx} {ops : Array Oper} {K : St → Prop} {s : St} {d : Nat} {T e n bb len : Nat} {parts : List (Nat × Operand)} {ty : TypeId} {pos : String} {after : Array Edge} {rest : List Oper} {vs : List AV} {z : Value}
    (hT : slElem P T = some (e, n, bb)) (hz : zeroT P e = some z) (hd : Nat.blt d C.nt = true) (hp : partsL s 0 parts = some vs) (hv : allV (fun v => cellV v && Nat.beq (width v) n) vs = true) (hl : Nat.beq parts.length len = true) (hs : Nat.ble (len * n) 16777216 = true)
    (h : ∀ b : Nat, AOps P C ops rest K ⟨(d, .loc (some b) 0 len len n) :: s.tm, (some b, ⟨n, vs⟩) :: s.hp⟩) : AOps P C ops (⟨some d, .buildSlice T len parts.toArray, ty, pos, after, none⟩ :: rest) K s := by
  intro Q a w hQ ⟨ok, F, hr⟩
  obtain ⟨h1, i, h2, h3, h4⟩ := slElem_spec hT
  have hlen : parts.length = len := Nat.eq_of_beq_eq_true hl
  have hs' : len * n ≤ 16777216 := by simpa using hs
  have key : ∀ arr0 : Array Value, arr0.size = len * n → ∃ cells, RepL w ok n vs cells [] ∧ cells.length = len * n ∧ Instr.fill (fun i => some (i * n, n)) arr0 (parts.map fun p => (p.1, a.eval p.2)) = some cells.toArray := by
    intro arr0 h0
    obtain ⟨cells, k1, k2⟩ := fill_parts hr parts 0 vs arr0 hp hv (by rw [hlen]; simp [h0])
    have hvl : vs.length = parts.length := by
      have : ∀ (parts : List (Nat × Operand)) (k : Nat) (vs : List AV), partsL s k parts = some vs → vs.length = parts.length := by
        intro parts
        induction parts with
        | nil => intro k vs hp; simp only [partsL, Option.some.injEq] at hp; subst hp; rfl
        | cons p parts ih =>
          intro k vs hp
          simp only [partsL] at hp
          split at hp
          · simp only [Option.some.injEq] at hp; subst hp; rename_i g; simp [ih _ _ g]
          · cases hp
      exact this parts 0 vs hp
    have hcl : cells.length = len * n := by rw [k1.length, hvl, hlen]
    refine ⟨cells, k1, hcl, ?_⟩
    rw [k2]
    congr 1
    refine Array.ext' ?_
    rw [ovw_toList cells arr0 (0 * n) (by simp [hcl, h0])]
    simp [hcl, h0]
  have hrun : ∃ cells, RepL w ok n vs cells [] ∧ cells.length = len * n ∧ (Instr.buildSlice T len (parts.toArray.map fun (p : Nat × Operand) => (p.1, a.eval p.2))).run P w = .ok (.slice (some ⟨w.heap.size, 0, none⟩) len len) (w.alloc (.cells (cells ++ []).toArray e)) := by
    have hlst : (parts.toArray.map fun (p : Nat × Operand) => (p.1, a.eval p.2)).toList = parts.map fun p => (p.1, a.eval p.2) := by simp
    unfold Instr.buildSlice
    simp only [Sem.run_bind, run_underlying h1, Result.andThen_ok, run_sizeOf' h2, h3, if_neg (show ¬ len * n > 2 ^ 24 by omega), Sem.run_pure, hlst]
    by_cases h0 : len * n = 0
    · simp only [h0, if_true, Sem.run_pure, Result.andThen_ok]
      obtain ⟨cells, k1, k2, k3⟩ := key ((Array.range 0).map fun x => (#[] : Array Value)[x % (#[] : Array Value).size]!) (by simp [h0])
      refine ⟨cells, k1, by rw [k2, h0], ?_⟩
      simp only [k3, List.append_nil, newRow, Sem.run_bind, run_newObj, Result.andThen_ok, Sem.run_pure]
      rfl
    · simp only [h0, if_false, Sem.run_bind, run_zero' hz, Result.andThen_ok, Sem.run_pure]
      obtain ⟨cells, k1, k2, k3⟩ := key ((Array.range (len * n)).map fun x => z.cells[x % z.cells.size]!) (by simp)
      refine ⟨cells, k1, k2, ?_⟩
      simp only [k3, List.append_nil, newRow, Sem.run_bind, run_newObj, Result.andThen_ok, Sem.run_pure]
      rfl
  obtain ⟨cells, k1, k2, k3⟩ := hrun
  have hr2 := hr.alloc (T := e) (sp := []) k1
  refine wpList_value rfl (run_value k3) (h w.heap.size Q _ _ hQ ⟨ok, _, hr2.put (by simpa using hd) ?_⟩)
  refine ⟨[.slice (some ⟨w.heap.size, 0, none⟩) len len], ?_, rfl⟩
  simp only [Rep]
  refine ⟨trivial, len, by simp, Nat.le_refl _, Nat.le_refl _, (cells ++ []).toArray, e, by show (w.heap.push _)[w.heap.size]? = _; simp, by simp, by simp [k2]⟩
theorem RetIs.own {P : Program} {fn : Func} {s : St} {t j len k n : Nat} {B : Option Nat} {xs : List AV} (h : fn.results = #[.tmp t]) (hl : look s.tm t = some (.loc B 0 len k n)) (hj : s.hp[j]? = some (B, ⟨n, xs⟩)) (h1 : len ≤ xs.length) (h2 : xs.length ≤ k) :
    RetIs P fn s (.own n (xs.take len) (xs.drop len)) := by
  intro C a w ok F hr
  obtain ⟨cs, g1, g2⟩ := hr.tm t _ hl
  obtain ⟨Fp, Fr, Fq, e, hrow, _⟩ := hr.hp.at hj
  have hnd := hr.nodup
  rw [e] at hnd
  refine ⟨_, Fr, ok, results_tmp h a.tmps P w, ⟨cs, ?_, by rw [g2]; rfl⟩, (List.nodup_append.1 (List.nodup_append.1 hnd).2.1).1, fun b hb => ?_, fun _ h => h, fun _ h => .inl h⟩
  · cases B with
    | none =>
      simp only [Rep] at g1 ⊢
      obtain ⟨_, _, rfl, rfl, rfl⟩ := g1
      obtain ⟨hx, rfl⟩ := hrow
      simp only at hx
      subst hx
      exact .inl ⟨rfl, rfl, rfl, rfl⟩
    | some b =>
      simp only [Rep] at g1 ⊢
      obtain ⟨_, cap, rfl, g3, g4, g5⟩ := g1
      obtain ⟨cells, F', r1, r2, rfl⟩ := hrow
      simp only at r1
      rw [← List.take_append_drop len xs] at r1
      obtain ⟨c1, c2, F1, F2, rfl, rfl, q1, q2⟩ := r1.split
      refine .inr ⟨b, cap, c1, c2, F1, F2, by simp [Nat.min_eq_left h1], by simp; omega, q1, q2, ?_, rfl⟩
      obtain ⟨arr, t', p1, p2, p3⟩ := r2
      obtain ⟨arr', t'', p4, p5, p6⟩ := g5
      rw [p1] at p4
      simp only [Option.some.injEq, Obj.cells.injEq] at p4
      obtain ⟨rfl, rfl, _⟩ := p4
      exact ⟨arr, t', p1, p2, by simpa using p6⟩
  · have : b ∈ F := by rw [e]; simp [hb]
    exact ⟨this, (hr.own b this).2.1⟩
theorem RetIs.ownV {P : Program} {fn : Func} {s : St} {t j len k n : Nat} {B : Option Nat} {xs : List AV} {r : AV} (h : fn.results = #[.tmp t]) (hl : look s.tm t = some (.loc B 0 len k n)) (hj : s.hp[j]? = some (B, ⟨n, xs⟩)) (h1 : len ≤ xs.length) (h2 : xs.length ≤ k)
    (e : .own n (xs.take len) (xs.drop len) = r) : RetIs P fn s r := e ▸ RetIs.own h hl hj h1 h2
end Go.Ax
namespace Go.Ax
theorem repT_valsInv {w : World} {ok : Nat → Prop} : ∀ {ps vs : List Value} {F : List Nat}, RepT w ok (ps.map .val) vs F → vs = ps ∧ F = []
  | [], vs, F, h => by simp only [List.map_nil, RepT] at h; exact h
  | a :: as, vs, F, h => by
    simp only [List.map_cons, RepT] at h
    obtain ⟨v, vs', c1, F1, F2, rfl, rfl, h2, h1, h3⟩ := h
    simp only [Rep] at h2
    obtain ⟨rfl, rfl⟩ := repT_valsInv h3
    obtain ⟨rfl, rfl, _⟩ := h2
    exact ⟨by rw [h1]; rfl, rfl⟩
theorem AF.ofVals {P : Program} {g : GL} {f : FuncId} {fn : Func} (hf : P.funcs[f]? = some fn) (hb : fn.body.isNone = false) (hname : (fn.name == "runtime.NumGoroutine") = false) (ps : List Value) (r : Value) (hr : r.oneCell' = true)
    (h : ∀ w, g.holds w → Calls P f ps.toArray w fun e w' => e = .returned r ∧ w' = w) : AF P g f (ps.map .val) (.val r) (noOuts (ps.map .val)) := by
  refine ⟨⟨fn, hf, hb, hname⟩, fun w vs F ok hv hF hFo hok hgl hlow => ?_⟩
  have hlen := repT_length hv
  obtain ⟨rfl, rfl⟩ := repT_valsInv hv
  refine (h w hgl).mono ?_
  rintro e w' ⟨rfl, rfl⟩
  exact ⟨r, [], [], ok, rfl, repV_val _ _ _ hr, repT_undef _ _ hlen, by simp, by simp, fun _ h => h, fun b hb => ⟨.inl hb, hok b hb⟩, fun _ _ _ => rfl, Nat.le_refl _, rfl, rfl, rfl, fun _ _ h => h⟩
end Go.Ax
namespace Go.Ax
structure Grow (w : World) (ok : Nat → Prop) (w' : World) (ok' : Nat → Prop) : Prop where
  more : ∀ b, ok b → ok' b
  okN : ∀ b, ok' b → (ok b ∨ w.heap.size ≤ b) ∧ b < w'.heap.size
  same : ∀ k, k < w.heap.size → w'.heap[k]? = w.heap[k]?
  size : w.heap.size ≤ w'.heap.size
  os : w'.os = w.os
  tape : w'.tape = w.tape
  output : w'.output = w.output
theorem Grow.refl {w : World} {ok : Nat → Prop} (h : ∀ b, ok b → b < w.heap.size) : Grow w ok w ok := ⟨fun _ h => h, fun b hb => ⟨.inl hb, h b hb⟩, fun _ _ => rfl, Nat.le_refl _, rfl, rfl, rfl⟩
theorem Grow.keeps {w w' : World} {ok ok' : Nat → Prop} (g : Grow w ok w' ok') (h : ∀ b, ok b → b < w.heap.size) : Keeps w w' ok ok' [] :=
  ⟨fun b hb => ⟨g.more b hb, g.same b (h b hb)⟩, by simp, fun b m hb => hb.keep (g.same b hb.lt)⟩
theorem RelX.grow {C : Ctx} {s : St} {a : Act} {w w' : World} {ok ok' : Nat → Prop} {F : List Nat} (h : RelX C s a w ok F) (g : Grow w ok w' ok') : RelX C s a w' ok' F :=
  h.after g.more g.okN g.same g.size g.os g.tape g.output
theorem RelX.okLt {C : Ctx} {s : St} {a : Act} {w : World} {ok : Nat → Prop} {F : List Nat} (h : RelX C s a w ok F) : ∀ b, ok b → b < w.heap.size := fun b hb => (h.okOf b hb).1
def DStep (P : Program) (C : Ctx) (s : St) (o : Oper) (v : AV) : Prop :=
  ∀ a w ok F, RelX C s a w ok F → ∀ (K : Act → World → Prop) (Q : Exit → Act → World → Prop),
    (∀ cv w' ok', Grow w ok w' ok' → RepV w' ok' v cv [] → K (a.put o.dst cv) w') → o.wp P a w K Q
def DGood (P : Program) (C : Ctx) (ops : Array Oper) (s : St) (o : Oper) (v : AV) : Prop :=
  match o.guard with
  | none => DStep P C s o v
  | some (j, want) => ∃ t, guardT ops j = some t ∧ ((∃ b, look s.tm t = some (.val (.bool b)) ∧ ((b = want ∧ DStep P C s o v) ∨ ((b == want) = false ∧ v = .tup []))) ∨ (look s.tm t = some (.tup []) ∧ v = .tup []))
def befs (o : Oper) : List Nat := (o.after.toList.filter (Region.binds .any)).map (·.on)
def memN (k : Nat) : List Nat → Bool
  | [] => false
  | j :: l => cond (Nat.beq j k) true (memN k l)
def rstD (b : List Nat) : List (Nat × Nat × AV) → List (Nat × AV)
  | [] => []
  | (j, d, v) :: r => cond (memN j b) ((d, v) :: rstD b r) (rstD b r)
def okT (k t : Nat) : Nat → List Oper → Bool
  | _, [] => true
  | i, o :: r => cond (match o.dst with | some d => Nat.beq d t | none => false) (cond (Nat.beq i k) true (memN k (befs o))) true && okT k t (i + 1) r
def rstT (ops : List Oper) (k : Nat) : List (Nat × AV) → List (Nat × AV)
  | [] => []
  | (t, v) :: r => cond (okT k t 0 ops) ((t, v) :: rstT ops k r) (rstT ops k r)
def fin : List (Nat × Nat × AV) → List (Nat × AV) → List (Nat × AV)
  | [], r => r
  | (_, d, v) :: l, r => (d, v) :: fin l r
def DOps (P : Program) (C : Ctx) (ops : List Oper) (tm : List (Nat × AV)) (hp : List (Option Nat × Row)) (K : St → Prop) : List Oper → Nat → List (Nat × Nat × AV) → Prop
  | [], _, done => K ⟨fin done tm, hp⟩
  | o :: rest, k, done => ∃ d v, o.dst = some d ∧ d < C.nt ∧ DGood P C ops.toArray ⟨rstD (befs o) done ++ rstT ops k tm, hp⟩ o v ∧ DOps P C ops tm hp K rest (k + 1) ((k, d, v) :: done)
theorem memN_iff {k : Nat} : ∀ {l : List Nat}, memN k l = true ↔ k ∈ l
  | [] => by simp [memN]
  | j :: l => by
    simp only [memN, List.mem_cons]
    by_cases h : j = k
    · subst h; simp
    · have : Nat.beq j k = false := by
        cases hb : Nat.beq j k with
        | false => rfl
        | true => exact absurd (Nat.eq_of_beq_eq_true hb) h
      rw [this, cond_false, memN_iff]
      constructor
      · exact .inr
      · rintro (e | e)
        · exact absurd e.symm h
        · exact e
theorem look_append : ∀ (l r : List (Nat × AV)) (t : Nat), look (l ++ r) t = match look l t with | some v => some v | none => look r t
  | [], r, t => rfl
  | (k, v) :: l, r, t => by
    rw [List.cons_append, look_cons, look_cons]
    by_cases h : k = t
    · simp [h]
    · simp only [h, if_false]; exact look_append l r t
theorem look_rstD {b : List Nat} : ∀ {l : List (Nat × Nat × AV)} {t : Nat} {v : AV}, look (rstD b l) t = some v → ∃ j, (j, t, v) ∈ l ∧ j ∈ b
  | [], t, v, h => by simp [rstD, look] at h
  | (j, d, u) :: l, t, v, h => by
    simp only [rstD] at h
    cases hb : memN j b with
    | false =>
      rw [hb, cond_false] at h
      obtain ⟨i, h1, h2⟩ := look_rstD h
      exact ⟨i, List.mem_cons_of_mem _ h1, h2⟩
    | true =>
      rw [hb, cond_true, look_cons] at h
      by_cases e : d = t
      · subst e
        simp only [if_true, Option.some.injEq] at h
        subst h
        exact ⟨j, List.mem_cons_self .., memN_iff.1 hb⟩
      · rw [if_neg e] at h
        obtain ⟨i, h1, h2⟩ := look_rstD h
        exact ⟨i, List.mem_cons_of_mem _ h1, h2⟩
theorem look_rstT {ops : List Oper} {k : Nat} : ∀ {l : List (Nat × AV)} {t : Nat} {v : AV}, look (rstT ops k l) t = some v → okT k t 0 ops = true ∧ look l t = some v
  | [], t, v, h => by simp [rstT, look] at h
  | (d, u) :: l, t, v, h => by
    simp only [rstT] at h
    rw [look_cons]
    cases hb : okT k d 0 ops with
    | false =>
      rw [hb, cond_false] at h
      obtain ⟨h1, h2⟩ := look_rstT h
      by_cases e : d = t
      · subst e; rw [hb] at h1; cases h1
      · rw [if_neg e]; exact ⟨h1, h2⟩
    | true =>
      rw [hb, cond_true, look_cons] at h
      by_cases e : d = t
      · subst e; rw [if_pos rfl] at h ⊢; exact ⟨hb, h⟩
      · rw [if_neg e] at h ⊢; exact look_rstT h
theorem okT_at {k t : Nat} : ∀ {l : List Oper} {i : Nat}, okT k t i l = true → ∀ {j : Nat} {o : Oper}, l[j]? = some o → o.dst = some t → i + j = k ∨ k ∈ befs o
  | [], i, h, j, o, hj, hd => by simp at hj
  | x :: l, i, h, j, o, hj, hd => by
    simp only [okT, Bool.and_eq_true] at h
    cases j with
    | zero =>
      simp at hj
      subst hj
      have h1 := h.1
      rw [hd] at h1
      simp only [Nat.beq_refl, cond_true] at h1
      by_cases e : i = k
      · exact .inl (by omega)
      · have : Nat.beq i k = false := by
          cases hb : Nat.beq i k with
          | false => rfl
          | true => exact absurd (Nat.eq_of_beq_eq_true hb) e
        rw [this, cond_false] at h1
        exact .inr (memN_iff.1 h1)
    | succ j =>
      rcases okT_at h.2 (j := j) (by simpa using hj) hd with e | e
      · exact .inl (by omega)
      · exact .inr e
theorem look_fin : ∀ {l : List (Nat × Nat × AV)} {r : List (Nat × AV)} {t : Nat} {v : AV}, look (fin l r) t = some v → (∃ j, (j, t, v) ∈ l) ∨ ((∀ j u, (j, t, u) ∉ l) ∧ look r t = some v)
  | [], r, t, v, h => .inr ⟨by simp, h⟩
  | (j, d, u) :: l, r, t, v, h => by
    simp only [fin] at h
    rw [look_cons] at h
    by_cases e : d = t
    · subst e
      simp only [if_true, Option.some.injEq] at h
      subst h
      exact .inl ⟨j, List.mem_cons_self ..⟩
    · rw [if_neg e] at h
      rcases look_fin h with ⟨i, h1⟩ | ⟨h1, h2⟩
      · exact .inl ⟨i, List.mem_cons_of_mem _ h1⟩
      · refine .inr ⟨fun i x hx => ?_, h2⟩
        rcases List.mem_cons.1 hx with hx | hx
        · cases hx; exact e rfl
        · exact h1 i x hx
def difD : List Oper → Bool
  | [] => true
  | o :: r => (r.all fun x => match o.dst, x.dst with | some d, some e => !Nat.beq d e | _, _ => true) && difD r
def backB : Nat → List Oper → Bool
  | _, [] => true
  | i, o :: r => (befs o).all (fun j => Nat.blt j i) && backB (i + 1) r
theorem backB_at : ∀ {l : List Oper} {i : Nat}, backB i l = true → ∀ {j : Nat} {o : Oper}, l[j]? = some o → ∀ b ∈ befs o, b < i + j
  | [], i, h, j, o, hj, b, hb => by simp at hj
  | x :: l, i, h, j, o, hj, b, hb => by
    simp only [backB, Bool.and_eq_true, List.all_eq_true] at h
    cases j with
    | zero =>
      simp at hj; subst hj
      have h1 := h.1 b hb
      have h2 := Nat.blt_eq.mp h1
      omega
    | succ j =>
      have := backB_at h.2 (j := j) (by simpa using hj) b hb
      omega
theorem difD_at : ∀ {l : List Oper}, difD l = true → ∀ {i j : Nat} {x y : Oper} {d : Nat}, l[i]? = some x → l[j]? = some y → x.dst = some d → y.dst = some d → i = j
  | [], h, i, j, x, y, d, hi, hj, hx, hy => by simp at hi
  | o :: l, h, i, j, x, y, d, hi, hj, hx, hy => by
    simp only [difD, Bool.and_eq_true, List.all_eq_true] at h
    cases i with
    | zero =>
      simp at hi; subst hi
      cases j with
      | zero => rfl
      | succ j =>
        have := h.1 y (List.mem_of_getElem? (by simpa using hj))
        rw [hx, hy] at this
        simp at this
    | succ i =>
      cases j with
      | zero =>
        simp at hj; subst hj
        have := h.1 x (List.mem_of_getElem? (by simpa using hi))
        rw [hx, hy] at this
        simp at this
      | succ j => exact congrArg Nat.succ (difD_at h.2 (by simpa using hi) (by simpa using hj) hx hy)
section
variable {P : Program} {C : Ctx} {ops : List Oper} {tm : List (Nat × AV)} {hp : List (Option Nat × Row)} {K : St → Prop}
theorem DOps.all : ∀ {l : List Oper} {k : Nat} {done : List (Nat × Nat × AV)}, DOps P C ops tm hp K l k done → (∀ x ∈ done, x.1 < k) →
    ∃ al, (∀ x ∈ done, x ∈ al) ∧ K ⟨fin al tm, hp⟩ ∧ (∀ x ∈ al, x ∈ done ∨ ∃ j o, l[j]? = some o ∧ x.1 = k + j ∧ o.dst = some x.2.1) ∧
      ∀ j o, l[j]? = some o → ∃ d v dn, o.dst = some d ∧ d < C.nt ∧ (k + j, d, v) ∈ al ∧ (∀ x ∈ dn, x ∈ al) ∧ DGood P C ops.toArray ⟨rstD (befs o) dn ++ rstT ops (k + j) tm, hp⟩ o v
  | [], k, done, h, hd => ⟨done, fun _ h => h, h, fun x hx => .inl hx, by simp⟩
  | o :: l, k, done, h, hd => by
    obtain ⟨d, v, h1, h2, h3, h4⟩ := h
    obtain ⟨al, g1, g2, g3, g4⟩ := DOps.all h4 (fun x hx => by
      rcases List.mem_cons.1 hx with rfl | hx
      · exact Nat.lt_succ_self _
      · exact Nat.lt_succ_of_lt (hd x hx))
    refine ⟨al, fun x hx => g1 x (List.mem_cons_of_mem _ hx), g2, fun x hx => ?_, fun j o' hj => ?_⟩
    · rcases g3 x hx with g | ⟨j, o', e1, e2, e3⟩
      · rcases List.mem_cons.1 g with rfl | g
        · exact .inr ⟨0, o, rfl, rfl, h1⟩
        · exact .inl g
      · exact .inr ⟨j + 1, o', by simpa using e1, by omega, e3⟩
    · cases j with
      | zero =>
        simp at hj; subst hj
        exact ⟨d, v, done, h1, h2, g1 _ (List.mem_cons_self ..), fun x hx => g1 x (List.mem_cons_of_mem _ hx), h3⟩
      | succ j =>
        obtain ⟨d', v', dn, e1, e2, e3, e4, e5⟩ := g4 j o' (by simpa using hj)
        rw [show k + 1 + j = k + (j + 1) by omega] at e3 e5
        exact ⟨d', v', dn, e1, e2, e3, e4, e5⟩
structure DInv (C : Ctx) (ops : List Oper) (tm : List (Nat × AV)) (hp : List (Option Nat × Row)) (al : List (Nat × Nat × AV)) (listed : Array Bool) (a : Act) (w : World) (ok : Nat → Prop) (F : List Nat) : Prop where
  rel : RelX C ⟨[], hp⟩ a w ok F
  size : listed.size = ops.length
  closed : ∀ (i : Nat) (o : Oper), listed[i]? = some true → ops[i]? = some o → ∀ j ∈ befs o, listed[j]? = some true
  vals : ∀ (j d : Nat) (v : AV), (j, d, v) ∈ al → listed[j]? = some true → RepV w ok v (a.tmps.getD d undef) []
  olds : ∀ (t : Nat) (v : AV), look tm t = some v → (∀ (j : Nat) (o : Oper), listed[j]? = some true → ops[j]? = some o → o.dst ≠ some t) → RepV w ok v (a.tmps.getD t undef) []
theorem DInv.rst {al dn : List (Nat × Nat × AV)} {listed : Array Bool} {a : Act} {w : World} {ok : Nat → Prop} {F : List Nat} (h : DInv C ops tm hp al listed a w ok F) {k : Nat} {o : Oper} (ho : ops[k]? = some o)
    (hk : listed[k]? ≠ some true) (hb : ∀ j ∈ befs o, listed[j]? = some true) (hdn : ∀ x ∈ dn, x ∈ al) : RelX C ⟨rstD (befs o) dn ++ rstT ops k tm, hp⟩ a w ok F := by
  refine { h.rel with tm := fun t v ht => ?_ }
  rw [look_append] at ht
  cases hl : look (rstD (befs o) dn) t with
  | some u =>
    rw [hl] at ht
    simp only [Option.some.injEq] at ht
    subst ht
    obtain ⟨j, h1, h2⟩ := look_rstD hl
    exact h.vals j t u (hdn _ h1) (hb j h2)
  | none =>
    rw [hl] at ht
    obtain ⟨h1, h2⟩ := look_rstT ht
    refine h.olds t v h2 fun j o' hj ho' hd => ?_
    rcases okT_at h1 ho' hd with e | e
    · have : j = k := by omega
      subst this; exact hk hj
    · exact hk (h.closed j o' hj ho' k e)
theorem getD_put_ne {a : Act} {d t : Nat} {cv : Value} (h : d ≠ t) : (a.put (some d) cv).tmps.getD t undef = a.tmps.getD t undef := by
  simp [Act.put, Array.getD_eq_getD_getElem?, Array.getElem?_setIfInBounds, h]
theorem getD_put_self {a : Act} {d : Nat} {cv : Value} (h : d < a.tmps.size) : (a.put (some d) cv).tmps.getD d undef = cv := by
  simp [Act.put, Array.getD_eq_getD_getElem?, h]
theorem DInv.put {al : List (Nat × Nat × AV)} {listed : Array Bool} {a : Act} {w w' : World} {ok ok' : Nat → Prop} {F : List Nat} (h : DInv C ops tm hp al listed a w ok F) (hdif : difD ops = true)
    (hal : ∀ x ∈ al, ∃ o, ops[x.1]? = some o ∧ o.dst = some x.2.1) (huni : ∀ j d v v', (j, d, v) ∈ al → (j, d, v') ∈ al → v = v')
    {k d : Nat} {o : Oper} {v : AV} {cv : Value} (ho : ops[k]? = some o) (hd : o.dst = some d) (hdn : d < C.nt) (hkal : (k, d, v) ∈ al) (hb : ∀ j ∈ befs o, listed[j]? = some true)
    (g : Grow w ok w' ok') (hv : RepV w' ok' v cv []) : DInv C ops tm hp al (listed.setIfInBounds k true) (a.put (some d) cv) w' ok' F := by
  have hlt := h.rel.okLt
  have hkeep := g.keeps hlt
  have hsz : d < a.tmps.size := by rw [h.rel.size]; exact hdn
  have hr := h.rel.grow g
  have hk : k < listed.size := by rw [h.size]; exact (List.getElem?_eq_some_iff.1 ho).1
  have hset : ∀ j, (listed.setIfInBounds k true)[j]? = some true ↔ (j = k ∨ listed[j]? = some true) := by
    intro j
    rw [Array.getElem?_setIfInBounds]
    by_cases e : k = j
    · subst e; simp [hk]
    · rw [if_neg e]
      constructor
      · exact .inr
      · rintro (e' | e')
        · exact absurd e'.symm e
        · exact e'
  refine ⟨?_, ?_, ?_, ?_, ?_⟩
  · exact { hr with size := by simp [Act.put, hr.size], defers := hr.defers, tm := fun t u ht => by simp [look] at ht }
  · simp [h.size]
  · intro i o' hi ho' j hj
    rw [hset] at hi ⊢
    rcases hi with rfl | hi
    · rw [ho] at ho'; cases ho'; exact .inr (hb j hj)
    · exact .inr (h.closed i o' hi ho' j hj)
  · intro j e u hj hl
    by_cases hjk : j = k
    · subst hjk
      obtain ⟨o', g1, g2⟩ := hal _ hj
      simp only at g1 g2
      rw [ho] at g1; cases g1
      rw [hd] at g2
      cases g2
      rw [huni j d u v hj hkal, getD_put_self hsz]
      exact hv
    · rw [hset] at hl
      have hl' := hl.resolve_left hjk
      obtain ⟨o', g1, g2⟩ := hal _ hj
      simp only at g1 g2
      have hne : d ≠ e := by
        intro e'
        subst e'
        exact hjk (difD_at hdif g1 ho g2 hd)
      rw [getD_put_ne hne]
      exact (h.vals j e u hj hl').keep hkeep
  · intro t u ht hno
    have hne : d ≠ t := by
      intro e
      subst e
      exact hno k o ((hset k).2 (.inl rfl)) ho hd
    rw [getD_put_ne hne]
    exact (h.olds t u ht fun j o' hj ho' => hno j o' ((hset j).2 (.inr hj)) ho').keep hkeep
theorem wanted_skip {C : Ctx} {s : St} {a : Act} {w : World} {ok : Nat → Prop} {F : List Nat} (hx : RelX C s a w ok F) {ops : Array Oper} {o : Oper} {j t : Nat} {want : Bool} (hg : o.guard = some (j, want))
    (ht : guardT ops j = some t) (hl : look s.tm t = some (.tup [])) : Region.wanted o (yielded ops a.tmps) = false := by
  have hv : a.tmps.getD t undef = .tuple #[] := by
    obtain ⟨cs, h1, h2⟩ := hx.tm t _ hl
    simp only [Rep] at h1
    obtain ⟨vals, rfl, h3⟩ := h1
    simp only [RepT] at h3
    rw [h2, h3.1]; rfl
  unfold guardT at ht
  have hy : yielded ops a.tmps j = none := by
    unfold yielded
    rw [ht]
    simp only [Option.bind_some]
    rw [Array.getD_eq_getD_getElem?] at hv
    cases he : a.tmps[t]? with
    | none => rfl
    | some v =>
      rw [he] at hv
      simp only [Option.getD_some] at hv
      subst hv; rfl
  unfold Region.wanted
  rw [hg]
  simp only [hy]
  rfl
theorem DInv.step {al dn : List (Nat × Nat × AV)} {listed : Array Bool} {a : Act} {w : World} {ok : Nat → Prop} {F : List Nat} (h : DInv C ops tm hp al listed a w ok F) (hdif : difD ops = true)
    (hal : ∀ x ∈ al, ∃ o, ops[x.1]? = some o ∧ o.dst = some x.2.1) (huni : ∀ j d v v', (j, d, v) ∈ al → (j, d, v') ∈ al → v = v')
    {k d : Nat} {o : Oper} {v : AV} (ho : ops[k]? = some o) (hd : o.dst = some d) (hdn : d < C.nt) (hkal : (k, d, v) ∈ al) (hb : ∀ j ∈ befs o, listed[j]? = some true) (hk : listed[k]? ≠ some true) (hdone : ∀ x ∈ dn, x ∈ al)
    (hg : DGood P C ops.toArray ⟨rstD (befs o) dn ++ rstT ops k tm, hp⟩ o v) {Q : Exit → Act → World → Prop} {K : Act → World → Prop}
    (hK : ∀ a' w' ok', DInv C ops tm hp al (listed.setIfInBounds k true) a' w' ok' F → K a' w') : wpOp P ops.toArray Q k K a w := by
  have hr := h.rst ho hk hb hdone
  have hstep : ∀ (hs : DStep P C ⟨rstD (befs o) dn ++ rstT ops k tm, hp⟩ o v), o.wp P a w K Q := fun hs =>
    hs a w ok F hr K Q fun cv w' ok' g hv => by
      rw [hd]
      exact hK _ _ _ (h.put hdif hal huni ho hd hdn hkal hb g hv)
  have hskip : v = .tup [] → K (a.put o.dst undef) w := fun e => by
    subst e
    rw [hd]
    exact hK _ _ _ (h.put hdif hal huni ho hd hdn hkal hb (Grow.refl h.rel.okLt) (repV_skipped w ok))
  unfold wpOp
  have ho' : ops.toArray[k]? = some o := by simpa using ho
  rw [ho']
  simp only
  unfold DGood at hg
  cases hgd : o.guard with
  | none =>
    rw [hgd] at hg
    rw [if_pos (by simp [Region.wanted, hgd])]
    exact .inl (hstep hg)
  | some p =>
    obtain ⟨j, want⟩ := p
    rw [hgd] at hg
    simp only at hg
    obtain ⟨t, ht, ⟨b, hl, ⟨rfl, hs⟩ | ⟨hne, e⟩⟩ | ⟨hl, e⟩⟩ := hg
    · rw [if_pos (by rw [wanted_eq hr hgd ht hl]; simp)]
      exact .inl (hstep hs)
    · rw [if_neg (by rw [wanted_eq hr hgd ht hl, hne]; simp)]
      exact hskip e
    · rw [if_neg (by rw [wanted_skip hr hgd ht hl]; simp)]
      exact hskip e
theorem ready_iff {ops : List Oper} {listed : Array Bool} (hs : listed.size = ops.length) {i : Nat} : i ∈ Region.ready .any ops.toArray listed ↔ ∃ o, ops[i]? = some o ∧ listed[i]? ≠ some true ∧ ∀ j ∈ befs o, listed[j]? = some true := by
  unfold Region.ready
  simp only [List.mem_filter, List.mem_range, List.size_toArray, List.getElem?_toArray, Bool.and_eq_true, Bool.not_eq_true']
  constructor
  · rintro ⟨h1, h2, h3⟩
    obtain ⟨o, ho⟩ : ∃ o, ops[i]? = some o := ⟨_, List.getElem?_eq_getElem h1⟩
    refine ⟨o, ho, ?_, ?_⟩
    · intro e
      rw [Array.getD_eq_getD_getElem?, e] at h2; simp at h2
    · rw [ho] at h3
      simp only [Option.map_some, Option.getD_some, Array.all_eq_true'] at h3
      intro j hj
      unfold befs at hj
      obtain ⟨e, he, rfl⟩ := List.mem_map.1 hj
      obtain ⟨he1, he2⟩ := List.mem_filter.1 he
      have := h3 e (by simpa using he1)
      rw [he2] at this
      simp only [Bool.not_true, Bool.false_or] at this
      rw [Array.getD_eq_getD_getElem?] at this
      cases hx : listed[e.on]? with
      | none => rw [hx] at this; simp at this
      | some b => rw [hx] at this; simp at this; rw [this]
  · rintro ⟨o, ho, h2, h3⟩
    have hi : i < ops.length := (List.getElem?_eq_some_iff.1 ho).1
    refine ⟨hi, ?_, ?_⟩
    · rw [Array.getD_eq_getD_getElem?]
      have : i < listed.size := by rw [hs]; exact hi
      rw [Array.getElem?_eq_getElem this] at h2 ⊢
      simp only [Option.getD_some]
      cases hb : listed[i] with
      | false => rfl
      | true => rw [hb] at h2; exact absurd rfl h2
    · rw [ho]
      simp only [Option.map_some, Option.getD_some, Array.all_eq_true']
      intro e he
      cases hb : Region.binds .any e with
      | false => rfl
      | true =>
        have := h3 e.on (List.mem_map.2 ⟨e, List.mem_filter.2 ⟨by simpa using he, hb⟩, rfl⟩)
        rw [Array.getD_eq_getD_getElem?, this]; rfl
theorem all_listed {ops : List Oper} {listed : Array Bool} (hs : listed.size = ops.length) (hback : backB 0 ops = true) (hr : Region.ready .any ops.toArray listed = []) : ∀ i, i < ops.length → listed[i]? = some true := by
  intro i
  induction i using Nat.strongRecOn with
  | _ i ih =>
    intro hi
    by_cases h : listed[i]? = some true
    · exact h
    · exfalso
      obtain ⟨o, ho⟩ : ∃ o, ops[i]? = some o := ⟨_, List.getElem?_eq_getElem hi⟩
      have : i ∈ Region.ready .any ops.toArray listed := (ready_iff hs).2 ⟨o, ho, h, fun j hj => by
        have := backB_at hback ho j hj
        exact ih j (by omega) (by omega)⟩
      rw [hr] at this; simp at this
def left (listed : Array Bool) : Nat := (listed.toList.filter (!·)).length
theorem left_set {listed : Array Bool} {k : Nat} (hk : k < listed.size) (h : listed[k]? ≠ some true) : left (listed.setIfInBounds k true) + 1 = left listed := by
  unfold left
  have key : ∀ (l : List Bool) (k : Nat), l[k]? = some false → ((l.set k true).filter (!·)).length + 1 = (l.filter (!·)).length := by
    intro l
    induction l with
    | nil => intro k h; simp at h
    | cons b l ih =>
      intro k h
      cases k with
      | zero => simp at h; subst h; simp
      | succ k =>
        have := ih k (by simpa using h)
        cases b <;> simp [List.set_cons_succ, List.filter_cons] <;> omega
  have h1 : listed.toList[k]? = some false := by
    rw [Array.getElem?_toList, Array.getElem?_eq_getElem hk]
    rw [Array.getElem?_eq_getElem hk] at h
    cases hb : listed[k] with
    | false => rfl
    | true => rw [hb] at h; exact absurd rfl h
  have := key listed.toList k h1
  rwa [Array.toList_setIfInBounds]
theorem any_of_inv {al : List (Nat × Nat × AV)} (hdif : difD ops = true) (hback : backB 0 ops = true)
    (hal : ∀ x ∈ al, ∃ o, ops[x.1]? = some o ∧ o.dst = some x.2.1) (huni : ∀ j d v v', (j, d, v) ∈ al → (j, d, v') ∈ al → v = v')
    (hgood : ∀ j o, ops[j]? = some o → ∃ d v dn, o.dst = some d ∧ d < C.nt ∧ (j, d, v) ∈ al ∧ (∀ x ∈ dn, x ∈ al) ∧ DGood P C ops.toArray ⟨rstD (befs o) dn ++ rstT ops j tm, hp⟩ o v)
    {Q : Exit → Act → World → Prop} (hQ : ∀ a w ok F, RelX C ⟨fin al tm, hp⟩ a w ok F → Q .normal a w) :
    ∀ (fuel : Nat) (listed : Array Bool) (a : Act) (w : World) (ok : Nat → Prop) (F : List Nat), left listed ≤ fuel → DInv C ops tm hp al listed a w ok F → wpAny P .any ops.toArray Q fuel listed a w := by
  have done : ∀ (listed : Array Bool) (a : Act) (w : World) (ok : Nat → Prop) (F : List Nat), DInv C ops tm hp al listed a w ok F → Region.ready .any ops.toArray listed = [] → Q .normal a w := by
    intro listed a w ok F h hr
    have hall := all_listed h.size hback hr
    refine hQ a w ok F { h.rel with tm := fun t v ht => ?_ }
    rcases look_fin ht with ⟨j, hj⟩ | ⟨h1, h2⟩
    · obtain ⟨o, g1, g2⟩ := hal _ hj
      exact h.vals j t v hj (hall j (List.getElem?_eq_some_iff.1 g1).1)
    · refine h.olds t v h2 fun j o hj ho hd => ?_
      obtain ⟨d, u, dn, e1, e2, e3, _⟩ := hgood j o ho
      rw [hd] at e1; cases e1
      exact h1 j u e3
  intro fuel
  induction fuel with
  | zero =>
    intro listed a w ok F hl h
    have hnil : Region.ready .any ops.toArray listed = [] := by
      cases hr : Region.ready .any ops.toArray listed with
      | nil => rfl
      | cons i r =>
        exfalso
        obtain ⟨o, ho, h2, h3⟩ := (ready_iff h.size).1 (by rw [hr]; exact List.mem_cons_self ..)
        have := left_set (by rw [h.size]; exact (List.getElem?_eq_some_iff.1 ho).1) h2
        omega
    exact ⟨hnil, done listed a w ok F h hnil⟩
  | succ fuel ih =>
    intro listed a w ok F hl h
    refine ⟨done listed a w ok F h, fun i hi => ?_⟩
    obtain ⟨o, ho, h2, h3⟩ := (ready_iff h.size).1 hi
    obtain ⟨d, v, dn, e1, e2, e3, e4, e5⟩ := hgood i o ho
    refine h.step hdif hal huni ho e1 e2 e3 h3 h2 e4 e5 fun a' w' ok' h' => ?_
    have := left_set (by rw [h.size]; exact (List.getElem?_eq_some_iff.1 ho).1) h2
    exact ih _ a' w' ok' F (by omega) h'
end
theorem DOps.uni {P : Program} {C : Ctx} {ops : List Oper} {tm : List (Nat × AV)} {hp : List (Option Nat × Row)} {K : St → Prop} : ∀ {l : List Oper} {k : Nat} {done : List (Nat × Nat × AV)}, DOps P C ops tm hp K l k done → (∀ x ∈ done, x.1 < k) → (∀ j d v v', (j, d, v) ∈ done → (j, d, v') ∈ done → v = v') →
    ∃ al, (∀ x ∈ done, x ∈ al) ∧ (∀ j d v v', (j, d, v) ∈ al → (j, d, v') ∈ al → v = v') ∧ K ⟨fin al tm, hp⟩ ∧ (∀ x ∈ al, x ∈ done ∨ ∃ j o, l[j]? = some o ∧ x.1 = k + j ∧ o.dst = some x.2.1) ∧
      ∀ j o, l[j]? = some o → ∃ d v dn, o.dst = some d ∧ d < C.nt ∧ (k + j, d, v) ∈ al ∧ (∀ x ∈ dn, x ∈ al) ∧ DGood P C ops.toArray ⟨rstD (befs o) dn ++ rstT ops (k + j) tm, hp⟩ o v
  | [], k, done, h, hd, hu => ⟨done, fun _ h => h, hu, h, fun x hx => .inl hx, by simp⟩
  | o :: l, k, done, h, hd, hu => by
    obtain ⟨d, v, h1, h2, h3, h4⟩ := h
    obtain ⟨al, g1, gu, g2, g3, g4⟩ := DOps.uni h4 (fun x hx => by
      rcases List.mem_cons.1 hx with rfl | hx
      · exact Nat.lt_succ_self _
      · exact Nat.lt_succ_of_lt (hd x hx)) (fun j e u u' hu1 hu2 => by
        rcases List.mem_cons.1 hu1 with e1 | e1 <;> rcases List.mem_cons.1 hu2 with e2 | e2
        · cases e1; cases e2; rfl
        · cases e1; have := hd _ e2; simp at this
        · cases e2; have := hd _ e1; simp at this
        · exact hu j e u u' e1 e2)
    refine ⟨al, fun x hx => g1 x (List.mem_cons_of_mem _ hx), gu, g2, fun x hx => ?_, fun j o' hj => ?_⟩
    · rcases g3 x hx with g | ⟨j, o', e1, e2, e3⟩
      · rcases List.mem_cons.1 g with rfl | g
        · exact .inr ⟨0, o, rfl, rfl, h1⟩
        · exact .inl g
      · exact .inr ⟨j + 1, o', by simpa using e1, by omega, e3⟩
    · cases j with
      | zero =>
        simp at hj; subst hj
        exact ⟨d, v, done, h1, h2, g1 _ (List.mem_cons_self ..), fun x hx => g1 x (List.mem_cons_of_mem _ hx), h3⟩
      | succ j =>
        obtain ⟨d', v', dn, e1, e2, e3, e4, e5⟩ := g4 j o' (by simpa using hj)
        rw [show k + 1 + j = k + (j + 1) by omega] at e3 e5
        exact ⟨d', v', dn, e1, e2, e3, e4, e5⟩
theorem RelX.drew {C : Ctx} {s : St} {a : Act} {w : World} {ok : Nat → Prop} {F : List Nat} (h : RelX C s a w ok F) : RelX C s a { w with drawn := w.drawn + 1 } ok F :=
  h.grow ⟨fun _ h => h, fun b hb => ⟨.inl hb, h.okLt b hb⟩, fun _ _ => rfl, Nat.le_refl _, rfl, rfl, rfl⟩
theorem AWP.drawn {P : Program} {C : Ctx} {Q : Exit → St → Prop} {id : Nat} {ops : List Oper} {tm : List (Nat × AV)} {hp : List (Option Nat × Row)} (hm : P.follows .mixedOrders = true) (hdif : difD ops = true) (hback : backB 0 ops = true)
    (h : DOps P C ops tm hp (fun s' => Q .normal s') ops 0 []) : AWP P C (.region id ops.toArray true) Q ⟨tm, hp⟩ := by
  intro R a w hR ⟨ok, F, hr⟩
  refine wp_region_any hm ?_
  obtain ⟨al, -, huni, hK, hal, hgood⟩ := DOps.uni h (by simp) (by simp)
  refine any_of_inv (tm := tm) (hp := hp) hdif hback (fun x hx => ?_) huni (fun j o ho => ?_) (fun a' w' ok' F' hr' => hR _ _ _ _ ⟨ok', F', hr'⟩ hK) _ _ _ _ ok F ?_ ?_
  · rcases hal x hx with g | ⟨j, o, e1, e2, e3⟩
    · simp at g
    · exact ⟨o, by rw [e2, Nat.zero_add]; exact e1, e3⟩
  · have := hgood j o ho
    simpa using this
  · unfold left
    refine Nat.le_trans (List.length_filter_le _ _) ?_
    simp
  · have hno : ∀ i : Nat, (Array.replicate ops.toArray.size false)[i]? ≠ some true := by
      intro i e
      rw [Array.getElem?_replicate] at e
      split at e <;> simp at e
    exact ⟨{ hr.drew with tm := fun t v ht => by simp [look] at ht }, by simp, fun (i : Nat) o hi => absurd hi (hno i), fun (j : Nat) d v _ hj => absurd hj (hno j), fun t v ht _ => hr.drew.tm t v ht⟩
section
variable {P : Program} {C : Ctx} {s : St} {ops : List Oper} {tm : List (Nat × AV)} {hp : List (Option Nat × Row)} {K : St → Prop} {k : Nat} {done : List (Nat × Nat × AV)}
theorem DStep.sub {tm' : List (Nat × AV)} {o : Oper} {v : AV} (hs : subT tm tm') (h : DStep P C ⟨tm', hp⟩ o v) : DStep P C ⟨tm, hp⟩ o v := fun a w ok F hr K Q hK =>
  h a w ok F { hr with tm := fun t u ht => hr.tm t u (look_sub hs t u ht) } K Q hK
theorem DStep.yields {d : Option Tmp} {op : Op} {ty : TypeId} {pos : String} {after : Array Edge} {g : Option (Nat × Bool)} {v : AV} (hv : Yields P C s op ty v) : DStep P C s ⟨d, op, ty, pos, after, g⟩ v := by
  intro a w ok F hr K Q hK
  obtain ⟨cv, h1, h2⟩ := hv d pos after a w ok F hr
  unfold Oper.wp
  have e : (execOp a.eval ⟨d, op, ty, pos, after, g⟩).run P w = (execOp a.eval ⟨d, op, ty, pos, after, none⟩).run P w := by
    cases op <;> rfl
  rw [e, h1, Oper.upon_value]
  exact hK cv w ok (Grow.refl hr.okLt) h2
theorem wp_call {P : Program} {Q : Exit → Act → World → Prop} {K : Act → World → Prop} {d : Option Tmp} {f : FuncId} {l : List Operand} {tys : Array TypeId} {ty : TypeId} {pos : String} {after : Array Edge} {g : Option (Nat × Bool)} {a : Act} {w : World}
    (hE : Ent P f) (h : Calls P f (l.map a.eval).toArray w fun e w' => ∃ v, e = .returned v ∧ K (a.put d v) w') :
    (⟨d, .call ⟨.value (.func f), l.toArray, tys⟩, ty, pos, after, g⟩ : Oper).wp P a w K Q := by
  have hr : (execOp a.eval ⟨d, .call ⟨.value (.func f), l.toArray, tys⟩, ty, pos, after, g⟩).run P w = .ok (.enter f (l.map a.eval).toArray) w := by
    simp only [execOp, resolve, Act.eval, Deferred.ofValue, Sem.run_bind, Sem.run_pure, Result.andThen_ok, invoke]
    simpa using run_callFunc hE (l.map a.eval).toArray w
  unfold Oper.wp
  rw [hr, Oper.upon_enter]
  exact h.mono fun e w' ⟨v, he, hw⟩ => by subst he; exact hw
theorem DStep.callro {d : Option Tmp} {f : FuncId} {l : List Operand} {tys : Array TypeId} {ty : TypeId} {pos : String} {after : Array Edge} {g : Option (Nat × Bool)} {ps outs : List AV} {r : AV}
    (hF : AF P C.g f ps r outs) (hx : aevs s l = some ps) (hpl : plainV r = true) : DStep P C s ⟨d, .call ⟨.value (.func f), l.toArray, tys⟩, ty, pos, after, g⟩ r := by
  intro a w ok F hr K Q hK
  refine wp_call hF.ent ((hF.calls w _ [] ok (hr.evs hx) List.nodup_nil (by simp) (fun b hb => (hr.okOf b hb).1) hr.glob (fun b hb => hr.ok0 b (hr.low b hb))).mono ?_)
  rintro e w' ⟨v, Fr, Fo, ok', rfl, ⟨cs, h1, h2⟩, h3, h4, h5, h6, h7, h8, h9, h10, h11, h12, h13⟩
  have := plain_foot _ _ _ h1 hpl
  subst this
  exact ⟨v, rfl, hK v w' ok' ⟨h6, h7, fun k hk => h8 k hk (by simp), h9, h10, h11, h12⟩ ⟨cs, h1, h2⟩⟩
theorem DStep.call {d : Option Tmp} {f : FuncId} {l : List Operand} {tys : Array TypeId} {ty : TypeId} {pos : String} {after : Array Edge} {g : Option (Nat × Bool)} {as ps outs : List AV} {r : AV}
    (hF : AF P C.g f ps r outs) (hx : aevs s l = some as) (hb : BorL s.hp as ps) (hpl : plainV r = true) (hfree : Free r) : DStep P C s ⟨d, .call ⟨.value (.func f), l.toArray, tys⟩, ty, pos, after, g⟩ r := by
  intro a w ok F hr K Q hK
  have hv := borL_rep hr.hp hb (hr.evs hx)
  refine wp_call hF.ent ((hF.calls w _ [] _ hv List.nodup_nil (by simp) ?_ hr.glob (fun b hb => .inl (hr.ok0 b (hr.low b hb)))).mono ?_)
  · intro b hb
    rcases hb with hb | hb
    · exact (hr.okOf b hb).1
    · exact (hr.own b hb).2.2
  · rintro e w' ⟨v, Fr, Fo, ok', rfl, ⟨cs, h1, h2⟩, h3, h4, h5, h6, h7, h8, h9, h10, h11, h12, h13⟩
    have := plain_foot _ _ _ h1 hpl
    subst this
    exact ⟨v, rfl, hK v w' ok ⟨fun _ h => h, fun b hb => ⟨.inl hb, by have := (hr.okOf b hb).1; omega⟩, fun k hk => h8 k hk (by simp), h9, h10, h11, h12⟩ ⟨cs, hfree _ _ _ _ _ h1, h2⟩⟩
theorem DStep.callv {d : Option Tmp} {f : FuncId} {l : List Operand} {tys : Array TypeId} {ty : TypeId} {pos : String} {after : Array Edge} {g : Option (Nat × Bool)} {as ps outs : List AV} {r r' : AV}
    (hF : AF P C.g f ps r outs) (hx : aevs s l = some as) (hb : BorL s.hp as ps) (hfree : Free r) (hv : View r r') : DStep P C s ⟨d, .call ⟨.value (.func f), l.toArray, tys⟩, ty, pos, after, g⟩ r' := by
  intro a w ok F hr K Q hK
  have hva := borL_rep hr.hp hb (hr.evs hx)
  refine wp_call hF.ent ((hF.calls w _ [] _ hva List.nodup_nil (by simp) ?_ hr.glob (fun b hb => .inl (hr.ok0 b (hr.low b hb)))).mono ?_)
  · intro b hb
    rcases hb with hb | hb
    · exact (hr.okOf b hb).1
    · exact (hr.own b hb).2.2
  · rintro e w' ⟨v, Fr, Fo, ok', rfl, ⟨cs, h1, h2⟩, h3, h4, h5, h6, h7, h8, h9, h10, h11, h12, h13⟩
    have hnew : ∀ b ∈ Fr, w.heap.size ≤ b ∧ b < w'.heap.size := fun b hb => by
      obtain ⟨g1, _, g3⟩ := h5 b (by simp [hb])
      exact ⟨by simpa using g1, g3⟩
    refine ⟨v, rfl, hK v w' (fun b => ok b ∨ b ∈ Fr) ⟨fun _ h => .inl h, fun b hb => ?_, fun k hk => h8 k hk (by simp), h9, h10, h11, h12⟩ ⟨cs, hv.2 w' ok _ cs Fr (fun _ h => Or.inl h) (fun b hb => Or.inr hb) (hfree _ _ _ _ _ h1), ?_⟩⟩
    · rcases hb with hb | hb
      · exact ⟨Or.inl hb, by have := (hr.okOf b hb).1; omega⟩
      · exact ⟨Or.inr (hnew b hb).1, (hnew b hb).2⟩
    · rw [h2]
      have := hv.1
      cases r <;> cases r' <;> simp [isAggV] at this <;> rfl
theorem D {tm' : List (Nat × AV)} {d : Nat} {op : Op} {ty : TypeId} {pos : String} {after : Array Edge} {rest : List Oper} {v : AV} (hs : subT (rstD (befs ⟨some d, op, ty, pos, after, none⟩) done ++ rstT ops k tm) tm')
    (hv : DStep P C ⟨tm', hp⟩ ⟨some d, op, ty, pos, after, none⟩ v) (hd : Nat.blt d C.nt = true) (h : DOps P C ops tm hp K rest (k + 1) ((k, d, v) :: done)) : DOps P C ops tm hp K (⟨some d, op, ty, pos, after, none⟩ :: rest) k done :=
  ⟨d, v, rfl, by simpa using hd, DStep.sub hs hv, h⟩
theorem DOps.on {d : Option Tmp} {op : Op} {ty : TypeId} {pos : String} {after : Array Edge} {rest : List Oper} {j t : Nat} {b : Bool} (ht : guardT ops.toArray j = some t) (hl : look (rstD (befs ⟨d, op, ty, pos, after, none⟩) done ++ rstT ops k tm) t = some (.val (.bool b)))
    (h : DOps P C ops tm hp K (⟨d, op, ty, pos, after, none⟩ :: rest) k done) : DOps P C ops tm hp K (⟨d, op, ty, pos, after, some (j, b)⟩ :: rest) k done := by
  obtain ⟨e, v, h1, h2, h3, h4⟩ := h
  exact ⟨e, v, h1, h2, ⟨t, ht, .inl ⟨b, hl, .inl ⟨rfl, h3⟩⟩⟩, h4⟩
theorem DOps.off {d : Nat} {op : Op} {ty : TypeId} {pos : String} {after : Array Edge} {rest : List Oper} {j t : Nat} {b want : Bool} (hd : Nat.blt d C.nt = true) (ht : guardT ops.toArray j = some t) (hl : look (rstD (befs ⟨some d, op, ty, pos, after, none⟩) done ++ rstT ops k tm) t = some (.val (.bool b))) (hne : (b == want) = false)
    (h : DOps P C ops tm hp K rest (k + 1) ((k, d, .tup []) :: done)) : DOps P C ops tm hp K (⟨some d, op, ty, pos, after, some (j, want)⟩ :: rest) k done :=
  ⟨d, .tup [], rfl, by simpa using hd, ⟨t, ht, .inl ⟨b, hl, .inr ⟨hne, rfl⟩⟩⟩, h⟩
theorem DOps.offU {d : Nat} {op : Op} {ty : TypeId} {pos : String} {after : Array Edge} {rest : List Oper} {j t : Nat} {want : Bool} (hd : Nat.blt d C.nt = true) (ht : guardT ops.toArray j = some t) (hl : look (rstD (befs ⟨some d, op, ty, pos, after, none⟩) done ++ rstT ops k tm) t = some (.tup []))
    (h : DOps P C ops tm hp K rest (k + 1) ((k, d, .tup []) :: done)) : DOps P C ops tm hp K (⟨some d, op, ty, pos, after, some (j, want)⟩ :: rest) k done :=
  ⟨d, .tup [], rfl, by simpa using hd, ⟨t, ht, .inr ⟨hl, rfl⟩⟩, h⟩
def setD (i : Nat) (v : AV) : List (Nat × Nat × AV) → List (Nat × Nat × AV)
  | [] => []
  | (j, d, u) :: r => cond (Nat.beq j i) ((j, d, v) :: r) ((j, d, u) :: setD i v r)
def valD (i : Nat) : List (Nat × Nat × AV) → Option AV
  | [] => none
  | (j, d, u) :: r => cond (Nat.beq j i) (some u) (valD i r)
theorem setD_same {i : Nat} {v : AV} : ∀ {l : List (Nat × Nat × AV)}, valD i l = some v → setD i v l = l
  | [], h => rfl
  | (j, d, u) :: r, h => by
    simp only [valD] at h
    simp only [setD]
    cases hb : Nat.beq j i with
    | true => rw [hb, cond_true, Option.some.injEq] at h; rw [cond_true, h]
    | false => rw [hb, cond_false] at h; rw [cond_false, setD_same h]
theorem DOps.split {l : List Oper} {b : Bool} (i : Nat) (hl : valD i done = some (.val (.bool b)))
    (h1 : b = true → DOps P C ops tm hp K l k (setD i (.val (.bool true)) done)) (h2 : b = false → DOps P C ops tm hp K l k (setD i (.val (.bool false)) done)) : DOps P C ops tm hp K l k done := by
  cases b with
  | true => have := h1 rfl; rwa [setD_same hl] at this
  | false => have := h2 rfl; rwa [setD_same hl] at this
theorem DOps.nil (h : K ⟨fin done tm, hp⟩) : DOps P C ops tm hp K [] k done := h
end
end Go.Ax
namespace Go.Ax
def Wk (a p : AV) : Prop := isAggV p = isAggV a ∧ ∀ w ok cs F, Rep w ok a cs F → Rep w ok p cs F
def WkL : List AV → List AV → Prop
  | [], [] => True
  | a :: as, p :: ps => Wk a p ∧ WkL as ps
  | _, _ => False
theorem Wk.refl (a : AV) : Wk a a := ⟨rfl, fun _ _ _ _ h => h⟩
theorem Wk.trans {a b c : AV} (h : Wk a b) (h' : Wk b c) : Wk a c := ⟨h'.1.trans h.1, fun w ok cs F hr => h'.2 w ok cs F (h.2 w ok cs F hr)⟩
theorem WkL.refl : ∀ as : List AV, WkL as as
  | [] => trivial
  | a :: as => ⟨Wk.refl a, WkL.refl as⟩
theorem WkL.of {a b : List AV} (h : a = b) : WkL a b := h ▸ WkL.refl a
theorem wkL_len : ∀ {as ps : List AV}, WkL as ps → ps.length = as.length
  | [], [], _ => rfl
  | a :: as, p :: ps, h => by simp [wkL_len h.2]
  | [], _ :: _, h => h.elim
  | _ :: _, [], h => h.elim
theorem wkL_repL {w : World} {ok : Nat → Prop} {n : Nat} : ∀ {as ps : List AV} {cs : List Value} {F : List Nat}, WkL as ps → RepL w ok n as cs F → RepL w ok n ps cs F
  | [], [], cs, F, _, h => h
  | a :: as, p :: ps, cs, F, hw, h => by
    simp only [RepL] at h ⊢
    obtain ⟨c1, c2, F1, F2, e1, e2, h1, h2, h3, h4⟩ := h
    exact ⟨c1, c2, F1, F2, e1, e2, h1, h2, hw.1.2 w ok c1 F1 h3, wkL_repL hw.2 h4⟩
  | [], _ :: _, _, _, h, _ => h.elim
  | _ :: _, [], _, _, h, _ => h.elim
theorem wrap_isAgg {a p : AV} (h : isAggV p = isAggV a) (cs : List Value) : wrapV p cs = wrapV a cs := by
  cases a <;> cases p <;> simp [isAggV] at h <;> rfl
theorem wkL_repT {w : World} {ok : Nat → Prop} : ∀ {as ps : List AV} {vs : List Value} {F : List Nat}, WkL as ps → RepT w ok as vs F → RepT w ok ps vs F
  | [], [], cs, F, _, h => h
  | a :: as, p :: ps, cs, F, hw, h => by
    simp only [RepT] at h ⊢
    obtain ⟨v, vs', c1, F1, F2, rfl, rfl, h1, h2, h3⟩ := h
    exact ⟨v, vs', c1, F1, F2, rfl, rfl, hw.1.2 w ok c1 F1 h1, by rw [h2, wrap_isAgg hw.1.1], wkL_repT hw.2 h3⟩
  | [], _ :: _, _, _, h, _ => h.elim
  | _ :: _, [], _, _, h, _ => h.elim
theorem Wk.agg {as ps : List AV} (h : WkL as ps) : Wk (.agg as) (.agg ps) := ⟨rfl, fun w ok cs F hr => by simp only [Rep] at hr ⊢; exact wkL_repL h hr⟩
theorem Wk.ro {n : Nat} {xs ps sp : List AV} {c : Bool} (h : WkL xs ps) : Wk (.ro n xs sp c) (.ro n ps [] false) := ⟨rfl, fun w ok cs F hr => by
  simp only [Rep] at hr ⊢
  obtain ⟨rfl, A, cap, c1, c2, h1, h2, h3, h4, h5, h6⟩ := hr
  have hl := wkL_len h
  refine ⟨rfl, A, cap, c1, [], by rw [hl]; exact h1, by simp only [List.length_nil]; omega, by simp, wkL_repL h h4, by simp [RepL], ?_⟩
  rcases h6 with h6 | ⟨b, o, h6, h7⟩
  · exact .inl (by simp at h6; simp [h6.1])
  · refine .inr ⟨b, o, h6, h7.1, fun j hj => ?_⟩
    simp only [List.append_nil] at hj
    have := h7.2 j (by simp; omega)
    rw [List.getElem_append_left hj] at this
    simpa using this⟩
theorem Wk.loc0 {b : Option Nat} {off k n m : Nat} : Wk (.loc b off 0 k n) (.ro m [] [] false) := ⟨rfl, fun w ok cs F hr => by
  cases b with
  | none =>
    simp only [Rep] at hr ⊢
    obtain ⟨rfl, _, _, _, rfl⟩ := hr
    exact ⟨rfl, none, 0, [], [], rfl, by simp, by simp, by simp [RepL], by simp [RepL], .inl rfl⟩
  | some b =>
    simp only [Rep] at hr ⊢
    obtain ⟨rfl, cap, rfl, _, _, _⟩ := hr
    exact ⟨rfl, _, cap, [], [], rfl, by simp, by simp, by simp [RepL], by simp [RepL], .inl rfl⟩⟩
theorem Wk.nil {m : Nat} : Wk (.val (.slice none 0 0)) (.ro m [] [] false) := ⟨rfl, fun w ok cs F hr => by
  simp only [Rep] at hr ⊢
  obtain ⟨rfl, rfl, _⟩ := hr
  exact ⟨rfl, none, 0, [], [], rfl, by simp, by simp, by simp [RepL], by simp [RepL], .inl rfl⟩⟩
theorem Wk.nilc {m : Nat} {c : Bool} : Wk (.val (.slice none 0 0)) (.ro m [] [] c) := ⟨rfl, fun w ok cs F hr => by
  simp only [Rep] at hr ⊢
  obtain ⟨rfl, rfl, _⟩ := hr
  exact ⟨rfl, none, 0, [], [], rfl, by simp, by simp, by simp [RepL], by simp [RepL], .inl rfl⟩⟩
theorem Leads.wk {C : Ctx} {s : St} (t : Nat) {v v' : AV} (hl : look s.tm t = some v) (h : Wk v v') : Leads C s ⟨(t, v') :: s.tm, s.hp⟩ := by
  intro a w ⟨ok, F, hr⟩
  refine ⟨ok, F, { hr with tm := fun u x hu => ?_ }⟩
  rw [look_cons] at hu
  by_cases e : t = u
  · subst e
    simp only [if_true, Option.some.injEq] at hu
    subst hu
    obtain ⟨cs, g1, g2⟩ := hr.tm t v hl
    exact ⟨cs, h.2 w ok cs [] g1, by rw [g2, wrap_isAgg h.1]⟩
  · rw [if_neg e] at hu; exact hr.tm u x hu
theorem AOps.callw {P : Program} {C : Ctx} {ops : Array Oper} {K : St → Prop} {s : St} {d : Nat} {f : FuncId} {l : List Operand} {tys : Array TypeId} {ty : TypeId} {pos : String} {after : Array Edge} {rest : List Oper} {as ps outs : List AV} {r : AV}
    (hF : AF P C.g f ps r outs) (hd : Nat.blt d C.nt = true) (hx : aevs s l = some as) (hw : WkL as ps) (hpl : plainV r = true) (h : AOps P C ops rest K ⟨(d, r) :: s.tm, s.hp⟩) :
    AOps P C ops (⟨some d, .call ⟨.value (.func f), l.toArray, tys⟩, ty, pos, after, none⟩ :: rest) K s := by
  intro Q a w hQ ⟨ok, F, hr⟩
  refine wpList_call hF.ent ((hF.calls w _ [] ok (wkL_repT hw (hr.evs hx)) List.nodup_nil (by simp) (fun b hb => (hr.okOf b hb).1) hr.glob (fun b hb => hr.ok0 b (hr.low b hb))).mono ?_)
  rintro e w' ⟨v, Fr, Fo, ok', rfl, ⟨cs, h1, h2⟩, h3, h4, h5, h6, h7, h8, h9, h10, h11, h12, h13⟩
  have := plain_foot _ _ _ h1 hpl
  subst this
  have hr' := hr.after h6 h7 (fun k hk => h8 k hk (by simp)) h9 h10 h11 h12
  exact ⟨v, rfl, h Q _ _ hQ ⟨ok', F, hr'.put (by simpa using hd) ⟨cs, h1, h2⟩⟩⟩
theorem DStep.callw {P : Program} {C : Ctx} {s : St} {d : Option Tmp} {f : FuncId} {l : List Operand} {tys : Array TypeId} {ty : TypeId} {pos : String} {after : Array Edge} {g : Option (Nat × Bool)} {as ps outs : List AV} {r : AV}
    (hF : AF P C.g f ps r outs) (hx : aevs s l = some as) (hw : WkL as ps) (hpl : plainV r = true) : DStep P C s ⟨d, .call ⟨.value (.func f), l.toArray, tys⟩, ty, pos, after, g⟩ r := by
  intro a w ok F hr K Q hK
  refine wp_call hF.ent ((hF.calls w _ [] ok (wkL_repT hw (hr.evs hx)) List.nodup_nil (by simp) (fun b hb => (hr.okOf b hb).1) hr.glob (fun b hb => hr.ok0 b (hr.low b hb))).mono ?_)
  rintro e w' ⟨v, Fr, Fo, ok', rfl, ⟨cs, h1, h2⟩, h3, h4, h5, h6, h7, h8, h9, h10, h11, h12, h13⟩
  have := plain_foot _ _ _ h1 hpl
  subst this
  exact ⟨v, rfl, hK v w' ok' ⟨h6, h7, fun k hk => h8 k hk (by simp), h9, h10, h11, h12⟩ ⟨cs, h1, h2⟩⟩
theorem cellV_avOf {z : Value} (hc : constOk z = true) : cellV (avOf z) = true := by cases z <;> first | rfl | (simp [constOk, Value.oneCell'] at hc)
theorem repL_replicate {w : World} {ok : Nat → Prop} {n : Nat} {v : AV} {cs : List Value} (h : Rep w ok v cs []) (hl : cs.length = n) (ho : ∀ x ∈ cs, x.oneCell' = true) : ∀ k, RepL w ok n (List.replicate k v) (List.replicate k cs).flatten []
  | 0 => by simp [RepL]
  | k + 1 => by
    simp only [List.replicate_succ, RepL, List.flatten_cons]
    exact ⟨cs, _, [], [], rfl, rfl, hl, ho, h, repL_replicate h hl ho k⟩
theorem flatten_get {cs : List Value} {n : Nat} (hl : cs.length = n) (hn : 0 < n) : ∀ (k i : Nat), i < k * n → (List.replicate k cs).flatten[i]? = cs[i % n]?
  | 0, i, h => by simp at h
  | k + 1, i, h => by
    rw [List.replicate_succ, List.flatten_cons]
    by_cases hi : i < n
    · rw [List.getElem?_append_left (by omega), Nat.mod_eq_of_lt hi]
    · rw [List.getElem?_append_right (by omega), flatten_get hl hn k (i - cs.length) (by rw [Nat.succ_mul] at h; omega), hl]
      congr 1
      rw [Nat.mod_eq_sub_mod (by omega : i ≥ n)]
theorem flatten_len {cs : List Value} {n : Nat} (hl : cs.length = n) (k : Nat) : (List.replicate k cs).flatten.length = k * n := by
  induction k with
  | zero => simp
  | succ k ih => rw [List.replicate_succ, List.flatten_cons, List.length_append, ih, hl, Nat.succ_mul]; omega
theorem madeCells_eq {cs : List Value} {n k : Nat} (hl : cs.length = n) (hn : 0 < n) : (madeCells cs.toArray (k * n)).toList = (List.replicate k cs).flatten := by
  refine List.ext_getElem? fun i => ?_
  by_cases hi : i < k * n
  · rw [flatten_get hl hn k i hi]
    have h1 : i % n < cs.length := by rw [hl]; exact Nat.mod_lt _ hn
    simp only [madeCells, Array.toList_map, Array.toList_range, List.getElem?_map, List.getElem?_range hi, Option.map_some]
    rw [List.getElem?_eq_getElem h1]
    have e : cs.toArray.size = n := by simpa using hl
    rw [e]
    congr 1
    rw [getElem!_pos cs.toArray (i % n) (by simpa using h1)]
    simp
  · have h1 : (madeCells cs.toArray (k * n)).toList.length = k * n := by simp [madeCells]
    have h2 := flatten_len hl k
    rw [List.getElem?_eq_none (by omega), List.getElem?_eq_none (by omega)]
theorem AOps.makeSlice {P : Program} {C : Ctx} {ops : Array Oper} {K : St → Prop} {s : St} {d : Nat} {T e n bb N : Nat} {x y : Operand} {k k' : IntKind} {i i' : Int} {ty : TypeId} {pos : String} {after : Array Edge} {rest : List Oper} {z : Value}
    (hT : slElem P T = some (e, n, bb)) (hz : zeroT P e = some z) (hc : constOk z = true) (hn : width (avOf z) = n) (hn0 : Nat.blt 0 n = true) (hd : Nat.blt d C.nt = true) (hx : aev s x = some (.val (.int k i))) (hy : aev s y = some (.val (.int k' i')))
    (hi : i = N) (hi' : i' = N) (hb : bb * N ≤ 281474976710656) (hN : N ≤ 9223372036854775807)
    (h : ∀ b : Nat, AOps P C ops rest K ⟨(d, .loc (some b) 0 N N n) :: s.tm, (some b, ⟨n, List.replicate N (avOf z)⟩) :: s.hp⟩) : AOps P C ops (⟨some d, .makeSlice T x y, ty, pos, after, none⟩ :: rest) K s := by
  intro Q a w hQ ⟨ok, F, hr⟩
  subst hi
  subst hi'
  obtain ⟨h1, inf, h2, h3, h4⟩ := slElem_spec hT
  obtain ⟨cs, g1, g2⟩ := repV_avOf w ok z hc
  have hcv : cellV (avOf z) = true := cellV_avOf hc
  have hl : cs.length = n := by rw [← hn]; exact rep_width g1 (by intro e; rw [e] at hcv; simp [cellV] at hcv)
  have hn' : 0 < n := by simpa using hn0
  have hzc : z.cells = cs.toArray := by rw [g2]; exact wrap_cells g1 hcv
  have hzz : inf.zero = some z := by
    unfold zeroT at hz
    rw [h2] at hz
    simpa using hz
  have hrun := Go.run_make w T e inf z h1 h2 hzz k k' N N (by omega) (by omega) (by rw [h4]; have q := (Int.ofNat_le (m := bb * N) (n := 281474976710656)).2 hb; rw [Int.natCast_mul] at q; exact q) (by omega)
  have hrun' : (Instr.makeSlice T (a.eval x) (a.eval y)).run P w = .ok (.slice (some ⟨w.heap.size, 0, none⟩) N N) (w.alloc (.cells ((List.replicate N cs).flatten ++ []).toArray e)) := by
    rw [hr.val hx, hr.val hy, hrun, hzc, h3]
    simp only [Int.toNat_natCast, List.append_nil]
    rw [← madeCells_eq hl hn']
  have hr2 := hr.alloc (T := e) (sp := []) (repL_replicate g1 hl (rep_cells g1 hcv) N)
  refine wpList_value rfl (run_value hrun') (h w.heap.size Q _ _ hQ ⟨ok, _, hr2.put (by simpa using hd) ?_⟩)
  refine ⟨[.slice (some ⟨w.heap.size, 0, none⟩) N N], ?_, rfl⟩
  simp only [Rep]
  refine ⟨trivial, N, by simp, Nat.le_refl _, Nat.le_refl _, _, e, by show (w.heap.push _)[w.heap.size]? = _; rw [Array.getElem?_push_size], by simp, ?_⟩
  simp only [List.append_nil, List.size_toArray, flatten_len hl]
  exact Nat.le_of_eq (by rw [Nat.zero_add])
section
variable {P : Program} {C : Ctx} {s : St} {ty : TypeId}
theorem slice_run {t e n bb : Nat} (ht : slElem P t = some (e, n, bb)) {w : World} {A : Option Addr} {len cap : Nat} {lo hi : Option Value} {l u : Nat} (hl : (lo = none ∧ l = 0) ∨ ∃ k, lo = some (.int k l)) (hu : (hi = none ∧ u = len) ∨ ∃ k, hi = some (.int k u))
    (h1 : l ≤ u) (h2 : u ≤ cap) : (Instr.sliceAt t (.slice A len cap) lo hi none).run P w = .ok (sliced A l u cap n) w := by
  obtain ⟨g1, inf, g2, g3, g4⟩ := slElem_spec ht
  have he : P.elem t = e := by simp [Program.elem, g1]
  have ht' : P.underlying t = some (.slice (P.elem t)) := by rw [he]; exact g1
  have hsz : ∀ w, (sizeOf (P.elem t)).run P w = .ok n w := fun w => by rw [he, run_sizeOf' g2, g3]
  rw [run_sliceAt_slice w t _ _ _ _ ht']
  rcases hl with ⟨rfl, rfl⟩ | ⟨k, rfl⟩ <;> rcases hu with ⟨rfl, rfl⟩ | ⟨k', rfl⟩
  · rw [run_slice_all w t A _ cap ht', hsz]; rfl
  · rw [run_slice_h w t A len cap ht' k' u (by omega) (by omega), hsz]; simp [Result.andThen]
  · rw [run_slice_l w t A _ cap ht' k l (by omega) (by omega), hsz]; simp [Result.andThen]
  · rw [run_slice_lh w t A len cap ht' k k' l u (by omega) (by omega) (by omega), hsz]; simp [Result.andThen]
def bnd (s : St) (o : Option Operand) (dflt l : Nat) : Prop := match o with | none => l = dflt | some x => ∃ k, aev s x = some (.val (.int k l))
theorem bnd_run {a : Act} {w : World} {ok : Nat → Prop} {F : List Nat} (hr : RelX C s a w ok F) {o : Option Operand} {dflt l : Nat} (h : bnd s o dflt l) : (o.map a.eval = none ∧ l = dflt) ∨ ∃ k, o.map a.eval = some (.int k l) := by
  cases o with
  | none => exact .inl ⟨rfl, h⟩
  | some x =>
    obtain ⟨k, hk⟩ := h
    exact .inr ⟨k, by simp [hr.val hk]⟩
theorem Yields.slice_loc {t e n bb : Nat} {x : Operand} {hi : Option Operand} {b : Option Nat} {off len k u : Nat} (ht : slElem P t = some (e, n, bb)) (hx : aev s x = some (.loc b off len k n)) (hu : bnd s hi len u) (h2 : u ≤ k) :
    Yields P C s (.slice t x none hi none) ty (.loc b off u k n) := by
  intro d pos after a w ok F hr
  obtain ⟨cs, g1, g2⟩ := hr.ev hx
  cases b with
  | none =>
    simp only [Rep] at g1
    obtain ⟨_, rfl, rfl, rfl, rfl⟩ := g1
    have hu0 : u = 0 := by omega
    subst hu0
    have hrun := slice_run ht (w := w) (A := none) (len := 0) (cap := 0) (.inl ⟨rfl, rfl⟩) (bnd_run hr hu) (Nat.le_refl _) (Nat.le_refl _)
    refine ⟨.slice none 0 0, ?_, ⟨[.slice none 0 0], by simp [Rep], rfl⟩⟩
    simp only [execOp, g2]
    exact run_value (by simpa [wrapV, sliced] using hrun)
  | some b =>
    simp only [Rep] at g1
    obtain ⟨_, cap, rfl, h3, h4, h5⟩ := g1
    have hrun := slice_run ht (w := w) (A := some ⟨b, off * n, none⟩) (len := len) (cap := cap) (.inl ⟨rfl, rfl⟩) (bnd_run hr hu) (Nat.zero_le _) (by omega)
    refine ⟨.slice (some ⟨b, off * n, none⟩) u cap, ?_, ⟨[.slice (some ⟨b, off * n, none⟩) u cap], by simp only [Rep]; exact ⟨trivial, cap, rfl, h2, h4, h5⟩, rfl⟩⟩
    simp only [execOp, g2]
    refine run_value ?_
    have e : sliced (some ⟨b, off * n, none⟩) 0 u cap n = .slice (some ⟨b, off * n, none⟩) u cap := by
      unfold sliced
      simp [Addr.add]
    rw [← e]
    simpa [wrapV] using hrun
theorem RoAt.shift {w : World} {ok : Nat → Prop} {b o : Nat} {x y : List Value} (h : RoAt w ok b o (x ++ y)) : RoAt w ok b (o + x.length) y :=
  ⟨h.1, fun j hj => by
    have := h.2 (x.length + j) (by simp; omega)
    rw [List.getElem_append_right (by omega)] at this
    simpa [Nat.add_assoc] using this⟩
theorem Yields.slice_ro {t e n bb : Nat} {x : Operand} {lo hi : Option Operand} {xs sp : List AV} {c : Bool} {l u : Nat} (ht : slElem P t = some (e, n, bb)) (hx : aev s x = some (.ro n xs sp c)) (hl : bnd s lo 0 l) (hu : bnd s hi xs.length u) (h1 : l ≤ u) (h2 : u ≤ xs.length + sp.length) :
    Yields P C s (.slice t x lo hi none) ty (.ro n (((xs ++ sp).drop l).take (u - l)) ((xs ++ sp).drop u) c) := by
  intro d pos after a w ok F hr
  obtain ⟨cs, g1, g2⟩ := hr.ev hx
  simp only [Rep] at g1
  obtain ⟨_, A, cap, c1, c2, rfl, h3, h4, h5, h6, h7⟩ := g1
  have hrun := slice_run ht (w := w) (A := A) (len := xs.length) (cap := cap) (bnd_run hr hl) (bnd_run hr hu) h1 (by omega)
  refine ⟨sliced A l u cap n, ?_, ⟨[sliced A l u cap n], ?_, rfl⟩⟩
  · simp only [execOp, g2]
    exact run_value (by simpa [wrapV] using hrun)
  · have hall := h5.append h6
    simp only [List.append_nil] at hall
    have e1 : xs ++ sp = (xs ++ sp).take l ++ (((xs ++ sp).drop l).take (u - l) ++ (xs ++ sp).drop u) := by
      have h8 : (xs ++ sp).drop u = ((xs ++ sp).drop l).drop (u - l) := by rw [List.drop_drop]; congr 1; omega
      rw [h8, List.take_append_drop, List.take_append_drop]
    rw [e1] at hall
    obtain ⟨d1, d2, F1, F2, e2, e3, k1, k2⟩ := hall.split
    obtain ⟨rfl, rfl⟩ := List.append_eq_nil_iff.1 e3.symm
    obtain ⟨d3, d4, F3, F4, rfl, e5, k3, k4⟩ := k2.split
    obtain ⟨rfl, rfl⟩ := List.append_eq_nil_iff.1 e5.symm
    have hlen1 : (((xs ++ sp).drop l).take (u - l)).length = u - l := by simp; omega
    have hlen2 : ((xs ++ sp).drop u).length = xs.length + sp.length - u := by simp
    simp only [Rep]
    refine ⟨trivial, (if cap = l then A else A.map (·.add (l * n))), cap - l, d3, d4, ?_, by rw [hlen1, hlen2]; omega, fun hc => by rw [hlen1, hlen2, h4 hc]; omega, k3, k4, ?_⟩
    · unfold sliced; rw [hlen1]
    · by_cases hcl : cap = l
      · have : d3 = [] ∧ d4 = [] := by
          have q1 := k3.length
          have q2 := k4.length
          rw [hlen1] at q1
          rw [hlen2] at q2
          have z1 : u - l = 0 := by omega
          have z2 : xs.length + sp.length - u = 0 := by omega
          rw [z1] at q1; rw [z2] at q2
          simp at q1 q2
          exact ⟨q1, q2⟩
        exact .inl (by simp [this])
      · rcases h7 with h7 | ⟨b, o, rfl, h8⟩
        · have : d1 ++ (d3 ++ d4) = [] := by rw [← e2]; exact h7
          simp at this
          exact .inl (by simp [this.2])
        · refine .inr ⟨b, o + d1.length, ?_, ?_⟩
          · have q := k1.length
            rw [if_neg hcl]
            simp only [Option.map_some, Addr.add, q]
            have : ((xs ++ sp).take l).length = l := by simp; omega
            rw [this]
            split
            · rename_i z; simp [z]
            · rfl
          · rw [e2] at h8
            exact h8.shift
end
def structPl (P : Program) (t : TypeId) : Option (List (Nat × Nat)) :=
  match P.underlying t with
  | some (.struct fs) => fs.toList.mapM fun f => (P.info? f.type).map fun i => (f.offset, i.size)
  | _ => none
def cellsAV : AV → List AV
  | .agg vs => vs
  | v => [v]
def splice (xs : List AV) (o : Nat) (vs : List AV) : List AV := xs.take o ++ (vs ++ xs.drop (o + vs.length))
def buildV (s : St) (pl : List (Nat × Nat)) : List AV → List (Nat × Operand) → Option (List AV)
  | xs, [] => some xs
  | xs, (i, x) :: r => match pl[i]?, aev s x with
    | some (o, z), some v => cond (cellV v && Nat.beq (width v) z && Nat.ble (o + z) xs.length) (buildV s pl (splice xs o (cellsAV v)) r) none
    | _, _ => none
theorem rep_cellsAV {w : World} {ok : Nat → Prop} {v : AV} {cs : List Value} (h : Rep w ok v cs []) (hc : cellV v = true) : RepL w ok 1 (cellsAV v) cs [] ∧ (cellsAV v).length = width v := by
  cases v with
  | agg vs => exact ⟨by simpa [Rep, cellsAV] using h, rfl⟩
  | undef => simp [cellV] at hc
  | _ =>
    have hw := rep_width h (by simp)
    have ho := rep_cells h hc
    refine ⟨?_, rfl⟩
    simp only [cellsAV, RepL]
    exact ⟨cs, [], [], [], by simp, rfl, hw, ho, h, rfl, rfl⟩
theorem repL1_splice {w : World} {ok : Nat → Prop} {xs vs : List AV} {cells cs : List Value} {o : Nat} (h : RepL w ok 1 xs cells []) (hv : RepL w ok 1 vs cs []) (hle : o + vs.length ≤ xs.length) :
    RepL w ok 1 (splice xs o vs) (cells.take o ++ (cs ++ cells.drop (o + cs.length))) [] := by
  have hlv := hv.length
  have hlx := h.length
  rw [Nat.mul_one] at hlv hlx
  have h0 := h
  rw [← List.take_append_drop o xs] at h0
  obtain ⟨c1, c2, F1, F2, e1, e2, k1, k2⟩ := h0.split
  obtain ⟨rfl, rfl⟩ := List.append_eq_nil_iff.1 e2.symm
  have h0' := h
  rw [← List.take_append_drop (o + vs.length) xs] at h0'
  obtain ⟨c3, c4, F3, F4, e3, e4, k3, k4⟩ := h0'.split
  obtain ⟨rfl, rfl⟩ := List.append_eq_nil_iff.1 e4.symm
  have l1 : c1.length = o := by rw [k1.length]; simp; omega
  have l3 : c3.length = o + vs.length := by rw [k3.length]; simp; omega
  have t1 : cells.take o = c1 := by rw [e1, ← l1]; simp
  have t2 : cells.drop (o + cs.length) = c4 := by rw [e3, hlv, ← l3]; simp
  rw [t1, t2]
  exact k1.append (hv.append k4)
theorem buildV_fill {C : Ctx} {s : St} {a : Act} {w : World} {ok : Nat → Prop} {F : List Nat} (hr : RelX C s a w ok F) {pl : List (Nat × Nat)} : ∀ (parts : List (Nat × Operand)) (xs ys : List AV) (cells : List Value), buildV s pl xs parts = some ys → RepL w ok 1 xs cells [] →
    ∃ cells', RepL w ok 1 ys cells' [] ∧ Instr.fill (pl.toArray[·]?) cells.toArray (parts.map fun p => (p.1, a.eval p.2)) = some cells'.toArray
  | [], xs, ys, cells, hb, h => by
    simp only [buildV, Option.some.injEq] at hb
    subst hb
    exact ⟨cells, h, rfl⟩
  | (i, x) :: parts, xs, ys, cells, hb, h => by
    simp only [buildV] at hb
    split at hb
    · rename_i o z v h1 h2
      cases hcond : (cellV v && Nat.beq (width v) z && Nat.ble (o + z) xs.length) with
      | false => rw [hcond] at hb; simp at hb
      | true =>
        rw [hcond, cond_true] at hb
        simp only [Bool.and_eq_true] at hcond
        obtain ⟨⟨q1, q2⟩, q3⟩ := hcond
        have q2 := Nat.eq_of_beq_eq_true q2
        have q3 : o + z ≤ xs.length := by simpa using q3
        obtain ⟨cs, g1, g2⟩ := hr.ev h2
        obtain ⟨r1, r2⟩ := rep_cellsAV g1 q1
        have hcl : cs.length = z := by rw [rep_width g1 (by rintro rfl; simp [cellV] at q1), q2]
        have hxl := h.length
        rw [Nat.mul_one] at hxl
        have hs := repL1_splice h r1 (o := o) (by rw [r2, q2]; exact q3)
        obtain ⟨cells', k1, k2⟩ := buildV_fill hr parts _ ys _ hb hs
        refine ⟨cells', k1, ?_⟩
        have hpl : pl.toArray[i]? = some (o, z) := by simpa using h1
        simp only [List.map_cons, Instr.fill, hpl, g2, wrap_cells g1 q1]
        have hsz : cs.toArray.size = z := by simpa using hcl
        rw [if_neg (by simp only [hsz, ne_eq, not_true, decide_false, Bool.false_or, decide_eq_true_eq, List.size_toArray]; omega)]
        have e : (cs.toArray.zipIdx.foldl (fun (cs : Array Value) (p : Value × Nat) => cs.setIfInBounds (o + p.2) p.1) cells.toArray) = ovw cells.toArray o cs := by
          have := foldl_ovw cs cells.toArray o 0
          simpa using this
        have e2 : ovw cells.toArray o cs = (cells.take o ++ (cs ++ cells.drop (o + cs.length))).toArray := by
          refine Array.ext' ?_
          rw [ovw_toList cs cells.toArray o (by simp; omega)]
        rw [← e2] at k2
        rw [← k2, ← e]
    · cases hb
theorem structPl_run {P : Program} {t : TypeId} {pl : List (Nat × Nat)} (h : structPl P t = some pl) : ∃ fs, P.underlying t = some (.struct fs) ∧ ∀ w, (fs.mapM fun f => do pure (f.offset, ← sizeOf f.type) : Sem (Array (Nat × Nat))).run P w = .ok pl.toArray w := by
  unfold structPl at h
  split at h
  · rename_i fs hfs
    refine ⟨fs, hfs, fun w => ?_⟩
    have key : ∀ (l : List Field) (pl : List (Nat × Nat)), (l.mapM fun f => (P.info? f.type).map fun i => (f.offset, i.size)) = some pl → ∀ w, (l.mapM fun f => do pure (f.offset, ← sizeOf f.type) : Sem (List (Nat × Nat))).run P w = .ok pl w := by
      intro l
      induction l with
      | nil => intro pl h w; simp at h; subst h; rfl
      | cons f l ih =>
        intro pl h w
        rw [List.mapM_cons] at h
        cases hi : P.info? f.type with
        | none => rw [hi] at h; simp at h
        | some inf =>
          rw [hi] at h
          cases hm : (l.mapM fun f => (P.info? f.type).map fun i => (f.offset, i.size)) with
          | none => rw [hm] at h; simp at h
          | some r =>
            rw [hm] at h
            simp at h
            subst h
            rw [List.mapM_cons]
            simp only [Sem.run_bind, run_sizeOf' hi, Result.andThen_ok, Sem.run_pure, ih r hm w]
    have := key fs.toList pl h w
    rw [Array.mapM_eq_mapM_toList]
    have e : ∀ (m : Sem (List (Nat × Nat))) (w : World) (r : List (Nat × Nat)), m.run P w = .ok r w → (List.toArray <$> m : Sem (Array (Nat × Nat))).run P w = .ok r.toArray w := by
      intro m w r hm
      rw [show (List.toArray <$> m : Sem (Array (Nat × Nat))) = (do let x ← m; pure x.toArray) from (bind_pure_comp ..).symm]
      rw [Sem.run_bind, hm]; rfl
    exact e _ w pl this
  · cases h
theorem Yields.build {P : Program} {C : Ctx} {s : St} {ty : TypeId} {t : TypeId} {parts : List (Nat × Operand)} {pl : List (Nat × Nat)} {zs : Array Value} {xs : List AV} (hpl : structPl P t = some pl) (hz : zeroT P t = some (.agg zs)) (hzo : constOk (.agg zs) = true)
    (hb : buildV s pl (zs.toList.map .val) parts = some xs) : Yields P C s (.build t parts.toArray) ty (.agg xs) := by
  intro d pos after a w ok F hr
  obtain ⟨fs, h1, h2⟩ := structPl_run hpl
  have h0 := repL_vals w ok zs.toList hzo
  obtain ⟨cells', k1, k2⟩ := buildV_fill hr parts _ xs _ hb h0
  refine ⟨.agg cells'.toArray, ?_, ⟨cells', by simpa [Rep] using k1, rfl⟩⟩
  have hlst : (parts.toArray.map fun (p : Nat × Operand) => (p.1, a.eval p.2)).toList = parts.map fun p => (p.1, a.eval p.2) := by simp
  simp only [execOp]
  refine run_value ?_
  unfold Instr.build
  simp only [Sem.run_bind, run_zero' hz, Result.andThen_ok, run_underlying h1, h2, Value.cells, hlst]
  rw [show zs = zs.toList.toArray by simp, k2]
  rfl
theorem RetIs.cellR {P : Program} {fn : Func} {s : St} {t T j b n : Nat} {g : Bool} {v r : AV} (h : fn.results = #[.cell t T]) (hl : look s.tm t = some (.ptr (some b) 0 0 n)) (hj : s.hp[j]? = some (some b, ⟨n, [v]⟩)) (hk : kindT P T = some (g, n)) (hg : isAggV v = g) (hp : plainV v = true) (hcv : cellV v = true) (e : v = r) : RetIs P fn s r := by
  subst e
  intro C a w ok F hr
  obtain ⟨cs, g1, g2⟩ := hr.tm t _ hl
  simp only [Rep] at g1
  obtain ⟨_, b', hb', rfl⟩ := g1
  simp only [Option.some.injEq] at hb'
  subst hb'
  obtain ⟨cells, F', r1, r2, _, _⟩ := hr.row hj
  simp only [RepL] at r1
  obtain ⟨c1, c2, F1, F2, rfl, rfl, q1, q2, q3, rfl, rfl⟩ := r1
  have hF1 := plain_foot _ _ _ q3 hp
  subst hF1
  have hcell : ∀ i (hi : i < c1.length), w.cell? ⟨b, 0 + i, none⟩ = some c1[i] := fun i hi => by
    rw [Nat.zero_add]
    exact r2.cell (by simp [hi])
  have ht : a.tmps.getD t undef = .pointer (some ⟨b, 0, none⟩) := by rw [g2]; simp [wrapV]
  refine ⟨wrapV v c1, [], ok, ?_, ⟨c1, q3, rfl⟩, List.nodup_nil, by simp, fun _ h => h, fun _ h => .inl h⟩
  have ht' : a.tmps[t]?.getD undef = .pointer (some ⟨b, 0, none⟩) := by simpa [Array.getD_eq_getD_getElem?] using ht
  cases hv : isAggV v with
  | true =>
    rw [hv] at hg; subst hg
    have hw : wrapV v c1 = .agg c1.toArray := by cases v <;> simp [isAggV] at hv <;> rfl
    have := run_loadAgg (P := P) (w := w) (T := T) (b := b) (o := 0) (cs := c1) (by rw [q1]; exact hk) hcell
    rw [hw]
    simp only [results, h]
    simp [ht', asAddr, this]
  | false =>
    rw [hv] at hg; subst hg
    have hl1 : c1.length = n := q1
    cases c1 with
    | nil =>
      exfalso
      have hw := rep_width q3 (by rintro rfl; simp [cellV] at hcv)
      cases v <;> first | (simp [isAggV] at hv; done) | (simp [width] at hw; done) | (simp [cellV] at hcv; done)
    | cons x c1 =>
      have hx : w.cell? ⟨b, 0, none⟩ = some x := hcell 0 (by simp)
      have := run_loadOne (P := P) (w := w) (T := T) (b := b) (o := 0) hk hx
      have hw : wrapV v (x :: c1) = x := by cases v <;> simp [isAggV] at hv <;> rfl
      rw [hw]
      simp only [results, h]
      simp [ht', asAddr, this]
end Go.Ax
namespace Go.Ax
theorem RetIs.wk {P : Program} {fn : Func} {s : St} {r r' : AV} (h : RetIs P fn s r) (hw : Wk r r') : RetIs P fn s r' := by
  intro C a w ok F hr
  obtain ⟨v, Fr, ok', h1, ⟨cs, h2, h3⟩, h4, h5, h6, h7⟩ := h C a w ok F hr
  exact ⟨v, Fr, ok', h1, ⟨cs, hw.2 w ok' cs Fr h2, by rw [h3, wrap_isAgg hw.1]⟩, h4, h5, h6, h7⟩
theorem RetIs.view {P : Program} {fn : Func} {s : St} {r r' : AV} (h : RetIs P fn s r) (hw : View r r') : RetIs P fn s r' := by
  intro C a w ok F hr
  obtain ⟨v, Fr, ok', h1, ⟨cs, h2, h3⟩, h4, h5, h6, h7⟩ := h C a w ok F hr
  refine ⟨v, [], fun b => ok' b ∨ b ∈ Fr, h1, ⟨cs, hw.2 w ok' _ cs Fr (fun _ h => .inl h) (fun b hb => .inr hb) h2, by rw [h3, wrap_isAgg hw.1]⟩, List.nodup_nil, by simp, fun b hb => .inl (h6 b hb), fun b hb => ?_⟩
  rcases hb with hb | hb
  · exact h7 b hb
  · exact .inr (h5 b hb).1
theorem AWP.prune {P : Program} {C : Ctx} {c : Code} {Q : Exit → St → Prop} {tm tm' : List (Nat × AV)} {hp : List (Option Nat × Row)} (h : subT tm tm') (h' : AWP P C c Q ⟨tm', hp⟩) : AWP P C c Q ⟨tm, hp⟩ := AWP.leads (Leads.tm h) h'
end Go.Ax
namespace Go.Ax
theorem Yields.load_ptr_aggV {P : Program} {C : Ctx} {s : St} {ty : TypeId} {T : TypeId} {x : Operand} {n i b j : Nat} {xs : List AV} {v : AV} (hk : kindT P T = some (true, n)) (hx : aev s x = some (.ptr (some b) i 0 n)) (hj : s.hp[j]? = some (some b, ⟨n, xs⟩))
    (hi : xs[i]? = some v) (hv : isAggV v = true) (hp : plainV v = true) : Yields P C s (.load T x) ty v := by
  cases v with
  | agg cs => exact Yields.load_ptr_agg hk hx hj hi hp
  | _ => simp [isAggV] at hv
end Go.Ax
