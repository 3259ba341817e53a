import Derived.Test.YtccdgppplkfjfaaDoorAx
import Derived.Laws.Small
import Derived.ArgAppend
import Derived.Laws.IdiomStrings
import Derived.DeepKeys
set_option linter.unusedVariables false
set_option linter.unusedSimpArgs false

namespace Go.Ax
section
variable {P : Program} {C : Ctx} {s : St} {ty : TypeId}
theorem Yields.max2 {x y : Operand} {t u : TypeId} {k : IntKind} {a b : Int} (hx : aev s x = some (.val (.int k a))) (hy : aev s y = some (.val (.int k b))) : Yields P C s (.call ⟨.builtin .max, #[x, y], #[t, u]⟩) ty (.val (.int k (max a b))) := by
  intro d pos after ac w ok F h
  refine ⟨.int k (max a b), ?_, repV_val _ _ _ rfl⟩
  have hr := run_max_int2 (P := P) w #[t, u] ty k k a b
  have hX := h.val hx
  have hY := h.val hy
  have e : (if b > a then b else a) = max a b := by split <;> omega
  rw [e] at hr
  simp only [execOp, resolve, Act.eval, Deferred.ofValue, Sem.run_bind, Sem.run_pure, Result.andThen_ok, invoke]
  simp [hX, hY, builtin, hr, Sem.run_bind]
theorem Yields.min2 {x y : Operand} {t u : TypeId} {k : IntKind} {a b : Int} (hx : aev s x = some (.val (.int k a))) (hy : aev s y = some (.val (.int k b))) : Yields P C s (.call ⟨.builtin .min, #[x, y], #[t, u]⟩) ty (.val (.int k (min a b))) := by
  intro d pos after ac w ok F h
  refine ⟨.int k (min a b), ?_, repV_val _ _ _ rfl⟩
  have hr := run_min_int2 (P := P) w #[t, u] ty k k a b
  have hX := h.val hx
  have hY := h.val hy
  have e : (if b < a then b else a) = min a b := by split <;> omega
  rw [e] at hr
  simp only [execOp, resolve, Act.eval, Deferred.ofValue, Sem.run_bind, Sem.run_pure, Result.andThen_ok, invoke]
  simp [hX, hY, builtin, hr, Sem.run_bind]
end
theorem AWP.midP {P : Program} {C : Ctx} {Q : Exit → St → Prop} {s : St} {x y : Code} (p : Prop) (tm : List (Nat × AV)) (hp : List (Option Nat × Row)) (h1 : AWP P C x (Qseq (fun s' => p ∧ Leads C s' ⟨tm, hp⟩) Q) s) (h2 : p → AWP P C y Q ⟨tm, hp⟩) : AWP P C (.seq x y) Q s :=
  AWP.seq (AWP.mono (fun e s' hq => by cases e <;> first | exact AWP.leads hq.2 (h2 hq.1) | exact hq) h1)
theorem wp_callf {P : Program} {Q : Exit → Act → World → Prop} {K : Act → World → Prop} {d : Option Tmp} {f : FuncId} {x : Operand} {l : List Operand} {vals : List Value} {tys : Array TypeId} {ty : TypeId} {pos : String} {after : Array Edge} {g : Option (Nat × Bool)} {a : Act} {w : World}
    (hE : Ent P f) (hx : a.eval x = .func (.func f) #[] vals.toArray) (h : Calls P f (l.map a.eval ++ vals).toArray w fun e w' => ∃ v, e = .returned v ∧ K (a.put d v) w') :
    (⟨d, .call ⟨.value x, l.toArray, tys⟩, ty, pos, after, g⟩ : Oper).wp P a w K Q := by
  have hr : (execOp a.eval ⟨d, .call ⟨.value x, l.toArray, tys⟩, ty, pos, after, g⟩).run P w = .ok (.enter f (l.map a.eval ++ vals).toArray) w := by
    simp only [execOp, resolve, hx, Deferred.ofValue, Sem.run_bind, Sem.run_pure, Result.andThen_ok, invoke]
    simpa using run_callFunc hE (l.map a.eval ++ vals).toArray w
  unfold Oper.wp
  rw [hr, Oper.upon_enter]
  exact h.mono fun e w' ⟨v, he, hw⟩ => by subst he; exact hw
theorem repT_append {w : World} {ok : Nat → Prop} : ∀ {us vs : List AV} {xs ys : List Value}, RepT w ok us xs [] → RepT w ok vs ys [] → RepT w ok (us ++ vs) (xs ++ ys) []
  | [], vs, xs, ys, h, h' => by simp only [RepT] at h; obtain ⟨rfl, _⟩ := h; exact h'
  | u :: us, vs, xs, ys, h, h' => by
    simp only [RepT] at h
    obtain ⟨v, vs', c1, F1, F2, rfl, hF, h1, h2, h3⟩ := h
    obtain ⟨rfl, rfl⟩ := List.append_eq_nil_iff.1 hF.symm
    simp only [List.cons_append, RepT]
    exact ⟨v, _, c1, [], [], rfl, rfl, h1, h2, repT_append h3 h'⟩
theorem RelX.fnv {C : Ctx} {s : St} {a : Act} {w : World} {ok : Nat → Prop} {F : List Nat} (hr : RelX C s a w ok F) {x : Operand} {f : FuncId} {caps : List AV} (hx : aev s x = some (.fn f caps)) : ∃ vals, a.eval x = .func (.func f) #[] vals.toArray ∧ RepT w ok caps vals [] := by
  obtain ⟨cs, g1, g2⟩ := hr.ev hx
  simp only [Rep] at g1
  obtain ⟨vals, rfl, h2⟩ := g1
  exact ⟨vals, by rw [g2]; rfl, h2⟩
theorem DStep.callf {P : Program} {C : Ctx} {s : St} {d : Option Tmp} {f : FuncId} {x : Operand} {l : List Operand} {tys : Array TypeId} {ty : TypeId} {pos : String} {after : Array Edge} {g : Option (Nat × Bool)} {us caps ps outs : List AV} {r : AV}
    (hF : AF P C.g f ps r outs) (hf : aev s x = some (.fn f caps)) (hx : aevs s l = some us) (hw : WkL (us ++ caps) ps) (hpl : plainV r = true) : DStep P C s ⟨d, .call ⟨.value x, l.toArray, tys⟩, ty, pos, after, g⟩ r := by
  intro a w ok F hr K Q hK
  obtain ⟨vals, e1, e2⟩ := hr.fnv hf
  refine wp_callf hF.ent e1 ((hF.calls w _ [] ok (wkL_repT hw (repT_append (hr.evs hx) e2)) List.nodup_nil (by simp) (fun b hb => (hr.okOf b hb).1) hr.glob (fun b hb => hr.ok0 b (hr.low b hb))).mono ?_)
  rintro e w' ⟨v, Fr, Fo, ok', rfl, ⟨cs, h1, h2⟩, h3, h4, h5, h6, h7, h8, h9, h10, h11, h12, h13⟩
  have := plain_foot _ _ _ h1 hpl
  subst this
  exact ⟨v, rfl, hK v w' ok' ⟨h6, h7, fun k hk => h8 k hk (by simp), h9, h10, h11, h12⟩ ⟨cs, h1, h2⟩⟩
theorem DStep.callfb {P : Program} {C : Ctx} {s : St} {d : Option Tmp} {f : FuncId} {x : Operand} {l : List Operand} {tys : Array TypeId} {ty : TypeId} {pos : String} {after : Array Edge} {g : Option (Nat × Bool)} {us caps ps outs : List AV} {r : AV}
    (hF : AF P C.g f ps r outs) (hf : aev s x = some (.fn f caps)) (hx : aevs s l = some us) (hb : BorL s.hp (us ++ caps) ps) (hpl : plainV r = true) (hfree : Free r) : DStep P C s ⟨d, .call ⟨.value x, l.toArray, tys⟩, ty, pos, after, g⟩ r := by
  intro a w ok F hr K Q hK
  obtain ⟨vals, e1, e2⟩ := hr.fnv hf
  have hv := borL_rep hr.hp hb (repT_append (hr.evs hx) e2)
  refine wp_callf hF.ent e1 ((hF.calls w _ [] _ hv List.nodup_nil (by simp) ?_ hr.glob (fun b hb => .inl (hr.ok0 b (hr.low b hb)))).mono ?_)
  · intro b hb
    rcases hb with hb | hb
    · exact (hr.okOf b hb).1
    · exact (hr.own b hb).2.2
  · rintro e w' ⟨v, Fr, Fo, ok', rfl, ⟨cs, h1, h2⟩, h3, h4, h5, h6, h7, h8, h9, h10, h11, h12, h13⟩
    have := plain_foot _ _ _ h1 hpl
    subst this
    exact ⟨v, rfl, hK v w' ok ⟨fun _ h => h, fun b hb => ⟨.inl hb, by have := (hr.okOf b hb).1; omega⟩, fun k hk => h8 k hk (by simp), h9, h10, h11, h12⟩ ⟨cs, hfree _ _ _ _ _ h1, h2⟩⟩
theorem AOps.step {P : Program} {C : Ctx} {ops : Array Oper} {K : St → Prop} {tm : List (Nat × AV)} {hp : List (Option Nat × Row)} {d : Nat} {op : Op} {ty : TypeId} {pos : String} {after : Array Edge} {rest : List Oper} {v : AV}
    (hs : DStep P C ⟨tm, hp⟩ ⟨some d, op, ty, pos, after, none⟩ v) (hd : Nat.blt d C.nt = true) (h : AOps P C ops rest K ⟨(d, v) :: tm, hp⟩) : AOps P C ops (⟨some d, op, ty, pos, after, none⟩ :: rest) K ⟨tm, hp⟩ := by
  intro Q a w hQ ⟨ok, F, hr⟩
  unfold wpList
  rw [if_pos (by simp [Region.wanted])]
  refine .inl (hs a w ok F hr _ Q fun cv w' ok' g hv => ?_)
  exact h Q _ _ hQ ⟨ok', F, (hr.grow g).put (by simpa using hd) hv⟩
end Go.Ax
namespace Go.Ax
theorem repT_focus {w : World} {ok : Nat → Prop} : ∀ {ps : List AV} {vs : List Value} {F : List Nat} {p : Nat} {a : AV}, RepT w ok ps vs F → ps[p]? = some a → plainL (ps.set p .undef) = true →
    ∃ v cs, vs[p]? = some v ∧ Rep w ok a cs F ∧ v = wrapV a cs ∧ ∀ a' : AV, Rep w ok a' cs [] → isAggV a' = isAggV a → RepT w ok (ps.set p a') vs []
  | [], vs, F, p, a, h, hp, _ => by simp at hp
  | x :: ps, vs, F, 0, a, h, hp, hpl => by
    simp only [List.getElem?_cons_zero, Option.some.injEq] at hp
    subst hp
    simp only [List.set_cons_zero, plainL, Bool.and_eq_true] at hpl
    simp only [RepT] at h
    obtain ⟨v, vs', c1, F1, F2, rfl, rfl, h1, h2, h3⟩ := h
    have := plainT_foot ps vs' F2 h3 hpl.2
    subst this
    refine ⟨v, c1, rfl, by simpa using h1, h2, fun a' ha hg => ?_⟩
    simp only [List.set_cons_zero, RepT]
    exact ⟨v, vs', c1, [], [], rfl, rfl, ha, by rw [h2, wrap_isAgg hg], h3⟩
  | x :: ps, vs, F, p + 1, a, h, hp, hpl => by
    simp only [List.getElem?_cons_succ] at hp
    simp only [List.set_cons_succ, plainL, Bool.and_eq_true] at hpl
    simp only [RepT] at h
    obtain ⟨v, vs', c1, F1, F2, rfl, rfl, h1, h2, h3⟩ := h
    have := plain_foot x c1 F1 h1 hpl.1
    subst this
    obtain ⟨u, cs, g1, g2, g3, g4⟩ := repT_focus h3 hp hpl.2
    refine ⟨u, cs, by simpa using g1, by simpa using g2, g3, fun a' ha hg => ?_⟩
    simp only [List.set_cons_succ, RepT]
    exact ⟨v, vs', c1, [], [], rfl, rfl, h1, h2, g4 a' ha hg⟩
theorem repT_outs {w : World} {ok : Nat → Prop} : ∀ {ps : List AV} {vs : List Value} {F : List Nat} {p : Nat} {v : Value} {o : AV} {cs : List Value}, vs.length = ps.length → vs[p]? = some v → v = wrapV o cs → Rep w ok o cs F → RepT w ok ((noOuts ps).set p o) vs F
  | [], [], F, p, v, o, cs, hl, hv, e, h => by simp at hv
  | x :: ps, y :: vs, F, 0, v, o, cs, hl, hv, e, h => by
    simp only [List.getElem?_cons_zero, Option.some.injEq] at hv
    subst hv
    simp only [noOuts, List.map_cons, List.set_cons_zero, RepT]
    exact ⟨_, vs, cs, F, [], rfl, by simp, h, e, repT_undef ps vs (by simpa using hl)⟩
  | x :: ps, y :: vs, F, p + 1, v, o, cs, hl, hv, e, h => by
    simp only [List.getElem?_cons_succ] at hv
    simp only [noOuts, List.map_cons, List.set_cons_succ, RepT]
    exact ⟨y, vs, [y], [], F, rfl, by simp, by simp [Rep], rfl, repT_outs (ps := ps) (by simpa using hl) hv e h⟩
theorem repT_swap {w : World} {ok : Nat → Prop} : ∀ {us ps : List AV} {vs : List Value} {p : Nat} {a' a : AV}, RepT w ok us vs [] → us[p]? = some a' → ps[p]? = some a → WkL (us.set p .undef) (ps.set p .undef) →
    ∃ v cs, vs[p]? = some v ∧ v = wrapV a' cs ∧ Rep w ok a' cs [] ∧ ∀ F, isAggV a = isAggV a' → Rep w ok a cs F → RepT w ok ps vs F
  | [], ps, vs, p, a', a, h, hu, hp, hw => by simp at hu
  | u :: us, [], vs, p, a', a, h, hu, hp, hw => by simp at hp
  | u :: us, q :: ps, vs, 0, a', a, h, hu, hp, hw => by
    simp only [List.getElem?_cons_zero, Option.some.injEq] at hu hp
    subst hu; subst hp
    simp only [List.set_cons_zero] at hw
    simp only [RepT] at h
    obtain ⟨v, vs', c1, F1, F2, rfl, hF, h1, h2, h3⟩ := h
    obtain ⟨rfl, rfl⟩ := List.append_eq_nil_iff.1 hF.symm
    refine ⟨v, c1, rfl, h2, h1, fun F hg ha => ?_⟩
    simp only [RepT]
    exact ⟨v, vs', c1, F, [], rfl, by simp, ha, by rw [h2, wrap_isAgg hg], wkL_repT hw.2 h3⟩
  | u :: us, q :: ps, vs, p + 1, a', a, h, hu, hp, hw => by
    simp only [List.getElem?_cons_succ] at hu hp
    simp only [List.set_cons_succ] at hw
    simp only [RepT] at h
    obtain ⟨v, vs', c1, F1, F2, rfl, hF, h1, h2, h3⟩ := h
    obtain ⟨rfl, rfl⟩ := List.append_eq_nil_iff.1 hF.symm
    obtain ⟨x, cs, g1, g2, g3, g4⟩ := repT_swap h3 hu hp hw.2
    refine ⟨x, cs, by simpa using g1, g2, g3, fun F hg ha => ?_⟩
    simp only [RepT]
    exact ⟨v, vs', c1, [], F, rfl, by simp, hw.1.2 w ok c1 [] h1, by rw [h2, wrap_isAgg hw.1.1], g4 F hg ha⟩
theorem repT_at {w : World} {ok : Nat → Prop} : ∀ {os : List AV} {vs : List Value} {F : List Nat} {p : Nat} {o : AV}, RepT w ok os vs F → os[p]? = some o → (∀ i x, i ≠ p → os[i]? = some x → x = .undef) → ∃ v cs, vs[p]? = some v ∧ v = wrapV o cs ∧ Rep w ok o cs F
  | [], vs, F, p, o, h, hp, _ => by simp at hp
  | x :: os, vs, F, 0, o, h, hp, hu => by
    simp only [List.getElem?_cons_zero, Option.some.injEq] at hp
    subst hp
    simp only [RepT] at h
    obtain ⟨v, vs', c1, F1, F2, rfl, rfl, h1, h2, h3⟩ := h
    have : ∀ (os : List AV) (vs : List Value) (F : List Nat), (∀ (i : Nat) (x : AV), os[i]? = some x → x = AV.undef) → RepT w ok os vs F → F = [] := by
      intro os
      induction os with
      | nil => intro vs F _ h; simp only [RepT] at h; exact h.2
      | cons y os ih =>
        intro vs F hu h
        simp only [RepT] at h
        obtain ⟨v, vs', c1, F1, F2, rfl, rfl, h1, h2, h3⟩ := h
        have e := hu 0 y rfl
        subst e
        simp only [Rep] at h1
        subst h1
        rw [ih vs' F2 (fun i x hx => hu (i + 1) x (by simpa using hx)) h3]; rfl
    have e := this os vs' F2 (fun i x hx => hu (i + 1) x (by omega) (by simpa using hx)) h3
    subst e
    exact ⟨v, c1, rfl, h2, by simpa using h1⟩
  | x :: os, vs, F, p + 1, o, h, hp, hu => by
    simp only [List.getElem?_cons_succ] at hp
    simp only [RepT] at h
    obtain ⟨v, vs', c1, F1, F2, rfl, rfl, h1, h2, h3⟩ := h
    have e := hu 0 x (by omega) rfl
    subst e
    simp only [Rep] at h1
    subst h1
    obtain ⟨u, cs, g1, g2, g3⟩ := repT_at h3 hp (fun i y hi hy => hu (i + 1) y (by omega) (by simpa using hy))
    exact ⟨u, cs, by simpa using g1, g2, by simpa using g3⟩
def RetP (P : Program) (fn : Func) (s : St) (r a' o : AV) : Prop :=
  isAggV o = isAggV a' ∧ ∀ C a w ok F, RelX C s a w ok F → ∃ v Fr Fo ok', (results fn a.tmps).run P w = .ok v w ∧ RepV w ok' r v Fr ∧ (∀ w1 ok1 cs, Rep w1 ok1 a' cs [] → (∀ b m, BlkAt w1 b [] m → BlkAt w b [] m) → Rep w ok' o cs Fo) ∧
    (Fr ++ Fo).Nodup ∧ (∀ b ∈ Fr ++ Fo, b ∈ F ∧ ¬ ok' b) ∧ (∀ b, ok b → ok' b) ∧ (∀ b, ok' b → ok b)
theorem AF.introP {P : Program} {g : GL} {f : FuncId} {fn : Func} {c : Code} {ps : List AV} {a r o : AV} {nt : Nat} (p : Nat) (hf : P.funcs[f]? = some fn) (hname : (fn.name == "runtime.NumGoroutine") = false) (hb : fn.body = some c) (hn : fn.ntmps = nt)
    (hp : ps[p]? = some a) (hpl : plainL (ps.set p .undef) = true) (hl : Nat.ble ps.length nt = true)
    (h : ∀ w0 ok0 own0 a' rows, Opn a a' rows → AWP P ⟨g, nt, w0, ok0, own0, False⟩ c (fun e s' => (e = .ret ∨ e = .normal) ∧ RetP P fn s' r a' o) ⟨enumF 0 (ps.set p a'), rows⟩) : AF P g f ps r ((noOuts ps).set p o) := by
  refine ⟨⟨fn, hf, by rw [hb]; rfl, hname⟩, ?_⟩
  intro w vs F ok hv hF hFo hok hgl hlow
  have hlen := repT_length hv
  have hle : ps.length ≤ nt := by simpa using hl
  obtain ⟨v0, cs0, hv1, hv2, hv3, hv4⟩ := repT_focus hv hp hpl
  obtain ⟨a', rows, o1, o2, o3, o4⟩ := opn_rep a cs0 F hv2
  have hvs := hv4 a' o3 o2
  refine calls_of_wp hf hb (h w ok F a' rows o1 _ _ w ?_ ?_)
  · intro e s' ac w' ⟨ok1, F1, hr⟩ ⟨he, hq0, hq⟩
    obtain ⟨v, Fr, Fo, ok', h1, h2, h3, h4, h5, h6, h7⟩ := hq _ ac w' ok1 F1 hr
    have post : ∃ v1 Fr Fo ok', Ending.returned v = .returned v1 ∧ RepV w' ok' r v1 Fr ∧ RepT w' ok' ((noOuts ps).set p o) vs Fo ∧ (Fr ++ Fo).Nodup ∧
      (∀ b ∈ Fr ++ Fo, (b ∈ F ∨ w.heap.size ≤ b) ∧ ¬ ok' b ∧ b < w'.heap.size) ∧ (∀ b, ok b → ok' b) ∧ (∀ b, ok' b → (ok b ∨ w.heap.size ≤ b) ∧ b < w'.heap.size) ∧
      (∀ k, k < w.heap.size → k ∉ F → w'.heap[k]? = w.heap[k]?) ∧ w.heap.size ≤ w'.heap.size ∧ w'.os = w.os ∧ w'.tape = w.tape ∧ w'.output = w.output ∧ (∀ b m, BlkAt w b [] m → BlkAt w' b [] m) := by
      refine ⟨v, Fr, Fo, ok', rfl, h2, repT_outs hlen hv1 (by rw [hv3, wrap_isAgg (hq0.trans o2)]) (h3 w ok cs0 o3 hr.room), h4, ?_, fun b hb => h6 b (hr.ok0 b hb), ?_, hr.frame, hr.grown, hr.os, hr.tape, hr.output, hr.room⟩
      · intro b hb
        obtain ⟨g1, g2⟩ := h5 b hb
        obtain ⟨g3, _, g4⟩ := hr.own b g1
        exact ⟨g3, g2, g4⟩
      · intro b hb
        obtain ⟨g1, g2⟩ := hr.okOf b (h7 b hb); exact ⟨by simpa using g2, g1⟩
    rcases he with rfl | rfl
    · exact ⟨hr.defers, v, h1, post⟩
    · exact ⟨hr.defers, v, h1, post⟩
  · refine ⟨ok, F, { size := ?_, defers := rfl, tm := ?_, hp := o4, nodup := hF, own := fun b hb => ⟨.inl hb, hFo b hb⟩, okOf := fun b hb => ⟨hok b hb, .inl hb⟩, ok0 := fun _ h => h, frame := fun _ _ _ => rfl, grown := Nat.le_refl _, room := fun _ _ h => h, os := rfl, tape := rfl, output := rfl, gl := hgl, low := hlow, sep := fun b hb => ⟨hok b hb, fun hh => (hFo b hh).1 hb⟩ }⟩
    · simp [hn, hlen]; omega
    · intro t v ht
      have := look_enum (ps.set p a') vs 0 [] (List.replicate (fn.ntmps - vs.length) undef) hvs rfl t v ht
      simp only [List.nil_append] at this
      have e : (vs.toArray ++ Array.replicate (fn.ntmps - vs.toArray.size) undef).getD t undef = (vs ++ List.replicate (fn.ntmps - vs.length) undef).getD t undef := by
        simp [Array.getD_eq_getD_getElem?, List.getD_eq_getElem?_getD, ← Array.getElem?_toList]
      show RepV w ok v ((vs.toArray ++ Array.replicate (fn.ntmps - vs.toArray.size) undef).getD t undef) []
      rw [e]; exact this
theorem RetP.optr {P : Program} {fn : Func} {s : St} {t i f n b j : Nat} {r : AV} {xs : List AV} (h : fn.results = #[.tmp t]) (hl : look s.tm t = some r) (hpl : plainV r = true) (hj : s.hp[j]? = some (some b, ⟨n, xs⟩)) : RetP P fn s r (.ptr (some b) i f n) (.optr n xs i f) := by
  refine ⟨rfl, fun C a w ok F hr => ?_⟩
  obtain ⟨Fp, Fr, Fq, e, hrow, _⟩ := hr.hp.at hj
  have hnd := hr.nodup
  rw [e] at hnd
  refine ⟨_, [], Fr, ok, results_tmp h a.tmps P w, hr.tm t r hl, fun w1 ok1 cs h1 _ => ?_, by simpa using (List.nodup_append.1 (List.nodup_append.1 hnd).2.1).1, fun b' hb => ?_, fun _ h => h, fun _ h => h⟩
  · simp only [Rep] at h1 ⊢
    obtain ⟨_, b', hb', rfl⟩ := h1
    simp only [Option.some.injEq] at hb'
    subst hb'
    obtain ⟨cells, F', r1, r2, rfl⟩ := hrow
    exact ⟨b, cells, F', rfl, r1, r2, rfl⟩
  · simp only [List.nil_append] at hb
    have : b' ∈ F := by rw [e]; simp [hb]
    exact ⟨this, (hr.own b' this).2.1⟩
theorem RetP.eq {P : Program} {fn : Func} {s : St} {r r' a' o o' : AV} (h : RetP P fn s r a' o) (e : r = r') (e' : o = o') : RetP P fn s r' a' o' := e ▸ e' ▸ h
structure Hand (a' : AV) (B : Option Nat) (row : Row) (a o : AV) (row' : Row) : Prop where
  agg : isAggV a = isAggV a'
  go : ∀ w ok cs F, Rep w ok a' cs [] → RowRep w ok B row F → Rep w ok a cs F
  back : ∀ w w1 ok ok1 v F, RepV w1 ok1 a' v [] → RepV w ok o v F → RowRep w ok B row' F
theorem Hand.optr {b i f n : Nat} {xs xs' : List AV} : Hand (.ptr (some b) i f n) (some b) ⟨n, xs⟩ (.optr n xs i f) (.optr n xs' i f) ⟨n, xs'⟩ where
  agg := rfl
  go := fun w ok cs F h hr => by
    simp only [Rep] at h ⊢
    obtain ⟨_, b', hb', rfl⟩ := h
    simp only [Option.some.injEq] at hb'
    subst hb'
    obtain ⟨cells, F', r1, r2, rfl⟩ := hr
    exact ⟨b, cells, F', rfl, r1, r2, rfl⟩
  back := fun w w1 ok ok1 v F h h' => by
    obtain ⟨cs, h, e1⟩ := h
    obtain ⟨cs', h', e2⟩ := h'
    simp only [Rep] at h h'
    obtain ⟨_, b', hb', rfl⟩ := h
    simp only [Option.some.injEq] at hb'
    subst hb'
    obtain ⟨b1, c, F', rfl, r1, r2, rfl⟩ := h'
    rw [e1] at e2
    simp only [wrapV, List.headD_cons, Value.pointer.injEq, Option.some.injEq, Addr.mk.injEq, and_true] at e2
    rw [e2]
    exact ⟨c, F', r1, r2, rfl⟩
theorem Hand.own {b len k n : Nat} {xs ys zs : List AV} (h1 : len ≤ xs.length) (h2 : xs.length ≤ k) : Hand (.loc (some b) 0 len k n) (some b) ⟨n, xs⟩ (.own n (xs.take len) (xs.drop len)) (.own n ys zs) ⟨n, ys ++ zs⟩ where
  agg := rfl
  go := fun w ok cs F h hr => by
    simp only [Rep] at h ⊢
    obtain ⟨_, cap, rfl, g3, g4, g5⟩ := h
    obtain ⟨cells, F', r1, r2, rfl⟩ := hr
    simp only at r1
    rw [← List.take_append_drop len xs] at r1
    obtain ⟨c1, c2, F1, F2, rfl, rfl, q1, q2⟩ := r1.split
    refine .inr ⟨b, cap, c1, c2, F1, F2, by simp [Nat.min_eq_left h1], by simp; omega, q1, q2, ?_, rfl⟩
    obtain ⟨arr, t', p1, p2, p3⟩ := r2
    obtain ⟨arr', t'', p4, p5, p6⟩ := g5
    rw [p1] at p4
    simp only [Option.some.injEq, Obj.cells.injEq] at p4
    obtain ⟨rfl, rfl, _⟩ := p4
    exact ⟨arr, t', p1, p2, by simpa using p6⟩
  back := fun w w1 ok ok1 v F h h' => by
    obtain ⟨cs, h, e1⟩ := h
    obtain ⟨cs', h', e2⟩ := h'
    rw [e1] at e2
    simp only [Rep] at h h'
    obtain ⟨_, cap, rfl, g3, g4, g5⟩ := h
    rcases h' with ⟨_, _, _, rfl⟩ | ⟨b1, cap1, c1, c2, F1, F2, rfl, q0, q1, q2, q3, rfl⟩
    · simp [wrapV] at e2
    · simp only [wrapV, List.headD_cons, Value.slice.injEq, Option.some.injEq, Addr.mk.injEq] at e2
      obtain ⟨⟨rfl, _⟩, _⟩ := e2
      obtain ⟨arr, t, p1, p2, p3⟩ := q3
      exact ⟨c1 ++ c2, F1 ++ F2, q1.append q2, ⟨arr, t, p1, p2, Nat.zero_le _⟩, rfl⟩
theorem Hand.ownNil {n : Nat} : Hand (.loc none 0 0 0 n) none ⟨n, []⟩ (.own n [] []) (.own n [] []) ⟨n, []⟩ where
  agg := rfl
  go := fun w ok cs F h hr => by
    simp only [Rep] at h ⊢
    obtain ⟨_, _, _, _, rfl⟩ := h
    obtain ⟨_, rfl⟩ := hr
    simp
  back := fun w w1 ok ok1 v F h h' => by
    obtain ⟨cs, h, e1⟩ := h
    obtain ⟨cs', h', e2⟩ := h'
    rw [e1] at e2
    simp only [Rep] at h h'
    obtain ⟨_, _, _, _, rfl⟩ := h
    rcases h' with ⟨_, _, rfl, _⟩ | ⟨b1, cap1, c1, c2, F1, F2, rfl, q0, q1, q2, q3, rfl⟩
    · exact ⟨rfl, rfl⟩
    · simp [wrapV] at e2
theorem AOps.callP {P : Program} {C : Ctx} {ops : Array Oper} {K : St → Prop} {s : St} {d : Nat} {f : FuncId} {l : List Operand} {tys : Array TypeId} {ty : TypeId} {pos : String} {after : Array Edge} {rest : List Oper} {us ps : List AV} {r a' a o : AV} {B : Option Nat} {row row' : Row} (p j : Nat)
    (hF : AF P C.g f ps r ((noOuts ps).set p o)) (hd : Nat.blt d C.nt = true) (hx : aevs s l = some us) (hu : us[p]? = some a') (hp : ps[p]? = some a) (hw : WkL (us.set p .undef) (ps.set p .undef)) (hj : s.hp[j]? = some (B, row)) (hH : Hand a' B row a o row') (hpl : plainV r = true)
    (h : AOps P C ops rest K ⟨(d, r) :: s.tm, s.hp.set j (B, row')⟩) : AOps P C ops (⟨some d, .call ⟨.value (.func f), l.toArray, tys⟩, ty, pos, after, none⟩ :: rest) K s := by
  intro Q ac w hQ ⟨ok, F, hr⟩
  obtain ⟨v0, cs0, e1, e2, e3, e4⟩ := repT_swap (hr.evs hx) hu hp hw
  obtain ⟨Fp, Fj, Fq, rfl, hrow, hset⟩ := hr.hp.at hj
  have hnd := hr.nodup
  have hndj : Fj.Nodup := (List.nodup_append.1 (List.nodup_append.1 hnd).2.1).1
  have hargs := e4 Fj hH.agg (hH.go w ok cs0 Fj e3 hrow)
  refine wpList_call hF.ent ((hF.calls w _ Fj ok hargs hndj (fun b hb => ?_) (fun b hb => (hr.okOf b hb).1) hr.glob (fun b hb => hr.ok0 b (hr.low b hb))).mono ?_)
  · obtain ⟨_, g2, g3⟩ := hr.own b (by simp [hb]); exact ⟨g2, g3⟩
  rintro e w' ⟨v, Fr, Fo, ok', rfl, ⟨cs, h1, h2⟩, h3, h4, h5, h6, h7, h8, h9, h10, h11, h12, h13⟩
  have := plain_foot _ _ _ h1 hpl
  subst this
  simp only [List.nil_append] at h4 h5
  have hpl2 : p < ps.length := (List.getElem?_eq_some_iff.1 hp).1
  obtain ⟨v1, cs1, k1, k2, k3⟩ := repT_at h3 (p := p) (o := o) (by simp [noOuts, hpl2]) (fun i x hi hx => by
    rw [List.getElem?_set_ne (by omega)] at hx
    simp only [noOuts, List.getElem?_map] at hx
    cases hq : ps[i]? with
    | none => rw [hq] at hx; simp at hx
    | some q => rw [hq] at hx; simp at hx; exact hx.symm)
  have hv01 : v0 = v1 := by rw [e1] at k1; exact Option.some.inj k1
  have hrow' : RowRep w' ok' B row' Fo := hH.back w' w ok' ok v0 Fo ⟨cs0, e3, e2⟩ ⟨cs1, k3, hv01.trans k2⟩
  have hdisj : ∀ b, b ∈ Fp ++ Fq → b ∉ Fj := by
    intro b hb hbj
    have q := List.nodup_append.1 hnd
    rcases List.mem_append.1 hb with hb | hb
    · exact q.2.2 b hb b (by simp [hbj]) rfl
    · exact (List.nodup_append.1 q.2.1).2.2 b hbj b hb rfl
  have hmem : ∀ b, b ∈ Fp ++ Fq → b ∈ Fp ++ (Fj ++ Fq) := fun b hb => by rcases List.mem_append.1 hb with hb | hb <;> simp [hb]
  have hk : Keeps w w' ok ok' (Fp ++ Fq) := ⟨fun b hb => ⟨h6 b hb, h8 b (hr.okOf b hb).1 (fun hj => (hr.own b (by simp [hj])).2.1 hb)⟩, fun b hb => h8 b (hr.own b (hmem b hb)).2.2 (hdisj b hb), h13⟩
  have hr2 : RelX C ⟨s.tm, s.hp.set j (B, row')⟩ ac w' ok' (Fp ++ (Fo ++ Fq)) := by
    refine { size := hr.size, defers := hr.defers, tm := hr.tmKeep (hk.sub (by simp)), hp := hset w' ok' B row' Fo hk hrow', nodup := ?_, own := ?_, okOf := ?_, ok0 := fun b hb => h6 b (hr.ok0 b hb), frame := ?_, grown := Nat.le_trans hr.grown h9, room := fun b m hb => h13 b m (hr.room b m hb), os := h10.trans hr.os, tape := h11.trans hr.tape, output := h12.trans hr.output, gl := hr.gl, low := hr.low, sep := hr.sep }
    · have q := List.nodup_append.1 hnd
      have q2 := List.nodup_append.1 q.2.1
      have key : ∀ b ∈ Fo, b ∉ Fp ++ Fq := by
        intro b hb hh
        rcases (h5 b hb).1 with g | g
        · exact hdisj b hh g
        · have := (hr.own b (hmem b hh)).2.2; omega
      refine List.nodup_append.2 ⟨q.1, List.nodup_append.2 ⟨h4, q2.2.1, fun x hx y hy e => key x hx (by rw [e]; simp [hy])⟩, fun x hx y hy e => ?_⟩
      rcases List.mem_append.1 hy with hy | hy
      · exact key y hy (by rw [← e]; simp [hx])
      · exact q.2.2 x hx y (by simp [hy]) e
    · intro b hb
      have old : b ∈ Fp ++ Fq → (b ∈ C.own0 ∨ C.w0.heap.size ≤ b) ∧ ¬ ok' b ∧ b < w'.heap.size := fun hb => by
        obtain ⟨g1, g2, g3⟩ := hr.own b (hmem b hb)
        refine ⟨g1, fun hh => ?_, by omega⟩
        rcases (h7 b hh).1 with g | g
        · exact g2 g
        · omega
      rcases List.mem_append.1 hb with hb | hb
      · exact old (by simp [hb])
      · rcases List.mem_append.1 hb with hb | hb
        · obtain ⟨g1, g2, g3⟩ := h5 b hb
          refine ⟨?_, g2, g3⟩
          rcases g1 with g | g
          · exact (hr.own b (by simp [g])).1
          · exact .inr (Nat.le_trans hr.grown g)
        · exact old (by simp [hb])
    · intro b hb
      obtain ⟨g1, g2⟩ := h7 b hb
      refine ⟨g2, ?_⟩
      rcases g1 with g | g
      · exact (hr.okOf b g).2
      · exact .inr (.inr (Nat.le_trans hr.grown g))
    · intro k hk1 hk2
      rw [h8 k (by have := hr.grown; omega) (fun hh => by
        rcases (hr.own k (by simp [hh])).1 with g | g
        · exact hk2 g
        · omega)]
      exact hr.frame k hk1 hk2
  exact ⟨v, rfl, h Q _ _ hQ ⟨ok', _, hr2.put (by simpa using hd) ⟨cs, h1, h2⟩⟩⟩
theorem Yields.nilCheck_ptr {P : Program} {C : Ctx} {s : St} {ty : TypeId} {x : Operand} {b : Option Nat} {i f n : Nat} (hx : aev s x = some (.ptr b i f n)) : Yields P C s (.nilCheck x) ty (.ptr b i f n) := by
  intro d pos after a w ok F h
  have hr := h.ev hx
  refine ⟨a.eval x, ?_, hr⟩
  obtain ⟨cs, g1, g2⟩ := hr
  simp only [Rep] at g1
  obtain ⟨_, b', hb', rfl⟩ := g1
  have hX : a.eval x = .pointer (some ⟨b', i * n + f, none⟩) := by rw [g2]; rfl
  simp only [execOp, hX]
  rfl
theorem AWP.condT {P : Program} {C : Ctx} {Q : Exit → St → Prop} {s : St} {t : Nat} {x y : Code} {b : Bool} (hc : look s.tm t = some (.val (.bool b))) (ht : b = true → AWP P C x Q ⟨(t, .val (.bool true)) :: s.tm, s.hp⟩) (hf : b = false → AWP P C y Q ⟨(t, .val (.bool false)) :: s.tm, s.hp⟩) : AWP P C (.cond (.tmp t) x y) Q s :=
  AWP.cond (b := b) hc (fun e => AWP.leads (Leads.same hc (by rw [e])) (ht e)) (fun e => AWP.leads (Leads.same hc (by rw [e])) (hf e))
theorem AF.introO {P : Program} {g : GL} {f : FuncId} {fn : Func} {c : Code} {ps : List AV} {r o : AV} {nt n i k : Nat} {xs : List AV} (p : Nat) (hf : P.funcs[f]? = some fn) (hname : (fn.name == "runtime.NumGoroutine") = false) (hb : fn.body = some c) (hn : fn.ntmps = nt)
    (hp : ps[p]? = some (.optr n xs i k)) (hpl : plainL (ps.set p .undef) = true) (hl : Nat.ble ps.length nt = true)
    (h : ∀ w0 ok0 own0 b, AWP P ⟨g, nt, w0, ok0, own0, False⟩ c (fun e s' => (e = .ret ∨ e = .normal) ∧ RetP P fn s' r (.ptr (some b) i k n) o) ⟨enumF 0 (ps.set p (.ptr (some b) i k n)), [(some b, ⟨n, xs⟩)]⟩) : AF P g f ps r ((noOuts ps).set p o) :=
  AF.introP p hf hname hb hn hp hpl hl fun w0 ok0 own0 a' rows ho => by
    cases ho with
    | plain _ hq => simp [plainV] at hq
    | optr _ _ _ _ b => exact h w0 ok0 own0 b
theorem AF.introW {P : Program} {g : GL} {f : FuncId} {fn : Func} {c : Code} {ps : List AV} {r o : AV} {nt n : Nat} {xs sp : List AV} (p : Nat) (hf : P.funcs[f]? = some fn) (hname : (fn.name == "runtime.NumGoroutine") = false) (hb : fn.body = some c) (hn : fn.ntmps = nt)
    (hp : ps[p]? = some (.own n xs sp)) (hpl : plainL (ps.set p .undef) = true) (hl : Nat.ble ps.length nt = true)
    (h : ∀ w0 ok0 own0 B, AWP P ⟨g, nt, w0, ok0, own0, False⟩ c (fun e s' => (e = .ret ∨ e = .normal) ∧ RetP P fn s' r (.loc B 0 xs.length (xs.length + sp.length) n) o) ⟨enumF 0 (ps.set p (.loc B 0 xs.length (xs.length + sp.length) n)), [(B, ⟨n, xs ++ sp⟩)]⟩) : AF P g f ps r ((noOuts ps).set p o) :=
  AF.introP p hf hname hb hn hp hpl hl fun w0 ok0 own0 a' rows ho => by
    cases ho with
    | plain _ hq => simp [plainV] at hq
    | own _ _ _ B => exact h w0 ok0 own0 B
end Go.Ax
namespace Go.Ax
theorem Bor.loc {hp : List (Option Nat × Row)} {B : Option Nat} {j len k n : Nat} {xs ys : List AV} (hj : hp[j]? = some (B, ⟨n, xs⟩)) (h1 : len ≤ xs.length) (hv : ViewL (xs.take len) ys) : Bor hp (.loc B 0 len k n) (.ro n ys [] false) := by
  refine ⟨rfl, fun w ok F cs Fe hhp hFe hr => ?_⟩
  obtain ⟨Fp, Fr, Fq, rfl, hrow, _⟩ := hhp.at hj
  have hlen : ys.length = len := by rw [viewL_len hv]; simp [Nat.min_eq_left h1]
  cases B with
  | none =>
    simp only [Rep] at hr ⊢
    obtain ⟨_, _, rfl, _, rfl⟩ := hr
    have : ys = [] := List.length_eq_zero_iff.1 hlen
    subst this
    exact ⟨trivial, none, 0, [], [], rfl, by simp, by simp, by simp [RepL], by simp [RepL], .inl rfl⟩
  | some b =>
    simp only [Rep] at hr ⊢
    obtain ⟨_, cap, rfl, g3, g4, g5⟩ := hr
    obtain ⟨cells, F', r1, r2, rfl⟩ := hrow
    simp only at r1
    rw [← List.take_append_drop len xs] at r1
    obtain ⟨c1, c2, F1, F2, rfl, rfl, q1, q2⟩ := r1.split
    refine ⟨trivial, some ⟨b, 0, none⟩, cap, c1, [], by rw [hlen]; simp, by rw [hlen]; simp; omega, by simp, viewL_repL (fun b hb => .inl hb) hv (fun x hx => .inr (by simp [hx])) q1, by simp [RepL], ?_⟩
    refine .inr ⟨b, 0, rfl, ?_⟩
    obtain ⟨arr, t, p1, p2, p3⟩ := r2
    have hro : BlkAt w b (c1 ++ []) 0 := ⟨arr, t, p1, by rw [List.append_nil]; exact (List.prefix_append c1 c2).trans p2, Nat.zero_le _⟩
    exact hro.ro (.inr (by simp))
theorem Bor.ptr {hp : List (Option Nat × Row)} {b j i f n : Nat} {xs ys : List AV} (hj : hp[j]? = some (some b, ⟨n, xs⟩)) (hv : ViewL xs ys) : Bor hp (.ptr (some b) i f n) (.rop n ys i f) := by
  refine ⟨rfl, fun w ok F cs Fe hhp hFe hr => ?_⟩
  obtain ⟨Fp, Fr, Fq, rfl, hrow, _⟩ := hhp.at hj
  simp only [Rep] at hr ⊢
  obtain ⟨_, b', hb', rfl⟩ := hr
  simp only [Option.some.injEq] at hb'
  subst hb'
  obtain ⟨cells, F', r1, r2, rfl⟩ := hrow
  refine ⟨trivial, b, 0, cells, by simp, viewL_repL (fun b hb => .inl hb) hv (fun x hx => .inr (by simp [hx])) r1, ?_⟩
  exact r2.ro (.inr (by simp))
theorem Bor.wk {hp : List (Option Nat × Row)} {a p : AV} (hpl : plainV a = true) (h : Wk a p) : Bor hp a p :=
  ⟨h.1, fun w ok F cs Fe h1 h2 hr => h.2 _ _ _ _ ((Bor.refl (hp := hp) hpl).2 w ok F cs Fe h1 h2 hr)⟩
theorem viewL_vals : ∀ l : List Value, ViewL (l.map .val) (l.map .val)
  | [] => trivial
  | v :: l => ⟨View.refl rfl, viewL_vals l⟩
end Go.Ax
namespace Go.Ax
theorem RelX.reset {C : Ctx} {s : St} {ac : Act} {w w' : World} {ok ok' : Nat → Prop} {Fp Fj Fq Fo : List Nat} {j : Nat} {B' : Option Nat} {row' : Row} (hr : RelX C s ac w ok (Fp ++ (Fj ++ Fq)))
    (hset : ∀ (w' : World) (ok' : Nat → Prop) B' r' Fr', Keeps w w' ok ok' (Fp ++ Fq) → RowRep w' ok' B' r' Fr' → HpRep w' ok' (s.hp.set j (B', r')) (Fp ++ (Fr' ++ Fq)))
    (hrow' : RowRep w' ok' B' row' Fo) (h4 : Fo.Nodup) (h5 : ∀ b ∈ Fo, (b ∈ Fj ∨ w.heap.size ≤ b) ∧ ¬ ok' b ∧ b < w'.heap.size) (h6 : ∀ b, ok b → ok' b) (h7 : ∀ b, ok' b → (ok b ∨ w.heap.size ≤ b) ∧ b < w'.heap.size)
    (h8 : ∀ k, k < w.heap.size → k ∉ Fj → w'.heap[k]? = w.heap[k]?) (h9 : w.heap.size ≤ w'.heap.size) (h10 : w'.os = w.os) (h11 : w'.tape = w.tape) (h12 : w'.output = w.output) (h13 : ∀ b m, BlkAt w b [] m → BlkAt w' b [] m) :
    RelX C ⟨s.tm, s.hp.set j (B', row')⟩ ac w' ok' (Fp ++ (Fo ++ Fq)) := by
  have hnd := hr.nodup
  have hdisj : ∀ b, b ∈ Fp ++ Fq → b ∉ Fj := by
    intro b hb hbj
    have q := List.nodup_append.1 hnd
    rcases List.mem_append.1 hb with hb | hb
    · exact q.2.2 b hb b (by simp [hbj]) rfl
    · exact (List.nodup_append.1 q.2.1).2.2 b hbj b hb rfl
  have hmem : ∀ b, b ∈ Fp ++ Fq → b ∈ Fp ++ (Fj ++ Fq) := fun b hb => by rcases List.mem_append.1 hb with hb | hb <;> simp [hb]
  have hk : Keeps w w' ok ok' (Fp ++ Fq) := ⟨fun b hb => ⟨h6 b hb, h8 b (hr.okOf b hb).1 (fun hj => (hr.own b (by simp [hj])).2.1 hb)⟩, fun b hb => h8 b (hr.own b (hmem b hb)).2.2 (hdisj b hb), h13⟩
  refine { size := hr.size, defers := hr.defers, tm := hr.tmKeep (hk.sub (by simp)), hp := hset w' ok' B' row' Fo hk hrow', nodup := ?_, own := ?_, okOf := ?_, ok0 := fun b hb => h6 b (hr.ok0 b hb), frame := ?_, grown := Nat.le_trans hr.grown h9, room := fun b m hb => h13 b m (hr.room b m hb), os := h10.trans hr.os, tape := h11.trans hr.tape, output := h12.trans hr.output, gl := hr.gl, low := hr.low, sep := hr.sep }
  · have q := List.nodup_append.1 hnd
    have q2 := List.nodup_append.1 q.2.1
    have key : ∀ b ∈ Fo, b ∉ Fp ++ Fq := by
      intro b hb hh
      rcases (h5 b hb).1 with g | g
      · exact hdisj b hh g
      · have := (hr.own b (hmem b hh)).2.2; omega
    refine List.nodup_append.2 ⟨q.1, List.nodup_append.2 ⟨h4, q2.2.1, fun x hx y hy e => key x hx (by rw [e]; simp [hy])⟩, fun x hx y hy e => ?_⟩
    rcases List.mem_append.1 hy with hy | hy
    · exact key y hy (by rw [← e]; simp [hx])
    · exact q.2.2 x hx y (by simp [hy]) e
  · intro b hb
    have old : b ∈ Fp ++ Fq → (b ∈ C.own0 ∨ C.w0.heap.size ≤ b) ∧ ¬ ok' b ∧ b < w'.heap.size := fun hb => by
      obtain ⟨g1, g2, g3⟩ := hr.own b (hmem b hb)
      refine ⟨g1, fun hh => ?_, by omega⟩
      rcases (h7 b hh).1 with g | g
      · exact g2 g
      · omega
    rcases List.mem_append.1 hb with hb | hb
    · exact old (by simp [hb])
    · rcases List.mem_append.1 hb with hb | hb
      · obtain ⟨g1, g2, g3⟩ := h5 b hb
        refine ⟨?_, g2, g3⟩
        rcases g1 with g | g
        · exact (hr.own b (by simp [g])).1
        · exact .inr (Nat.le_trans hr.grown g)
      · exact old (by simp [hb])
  · intro b hb
    obtain ⟨g1, g2⟩ := h7 b hb
    refine ⟨g2, ?_⟩
    rcases g1 with g | g
    · exact (hr.okOf b g).2
    · exact .inr (.inr (Nat.le_trans hr.grown g))
  · intro k hk1 hk2
    rw [h8 k (by have := hr.grown; omega) (fun hh => by
      rcases (hr.own k (by simp [hh])).1 with g | g
      · exact hk2 g
      · omega)]
    exact hr.frame k hk1 hk2
def SrcAt (w : World) (ok : Nat → Prop) (n : Nat) (ys : List AV) (v : Value) : Prop :=
  ∃ news, RepL w ok n ys news [] ∧ (((∃ c, v = .slice none 0 c) ∧ ys = []) ∨ ∃ a c, v = .slice (some a) ys.length c ∧ ∀ j u, news[j]? = some u → w.cell? (a.add j) = some u)
theorem run_append_none {P : Program} {t e n bb : Nat} (ht : slElem P t = some (e, n, bb)) {ty : TypeId} {w : World} {A : Option Addr} {len cap c : Nat} (h : len ≤ cap) : (Builtin.append_ #[t, t] ty #[.slice A len cap, .slice none 0 c]).run P w = .ok (.slice A len cap) w := by
  obtain ⟨g1, i, g2, g3, g4⟩ := slElem_spec ht
  cases A <;> simp [Builtin.append_, run_underlying g1, sizeOf, typeInfo, g2, Builtin.lenOf, Builtin.firstCells, h, storeCells]
theorem run_append_none0 {P : Program} {t e n bb : Nat} (ht : slElem P t = some (e, n, bb)) {ty : TypeId} {w : World} {a : Addr} {c : Nat} : (Builtin.append_ #[t, t] ty #[.slice none 0 0, .slice (some a) 0 c]).run P w = .ok (.slice none 0 0) w := by
  obtain ⟨g1, i, g2, g3, g4⟩ := slElem_spec ht
  simp [Builtin.append_, run_underlying g1, sizeOf, typeInfo, g2, Builtin.lenOf, Builtin.firstCells, loadCells, loadCellsFrom]
theorem append_core {P : Program} {t e n bb : Nat} (ht : slElem P t = some (e, n, bb)) {z : Value} (hz : zeroT P e = some z) (hzs : z.cells.size = n) (hn : 0 < n) {ty : TypeId} {w : World} {ok : Nat → Prop} {B : Option Nat} {len k : Nat} {xs ys : List AV} {F : List Nat} {cv v2 : Value}
    (hd : RepV w ok (.loc B 0 len k n) cv []) (hrow : RowRep w ok B ⟨n, xs⟩ F) (hlen : xs.length = len) (hF : F.Nodup) (hFo : ∀ b ∈ F, ¬ ok b ∧ b < w.heap.size) (hok : ∀ b, ok b → b < w.heap.size) (hsrc : SrcAt w ok n ys v2)
    (hb1 : len + ys.length ≤ maxLen) (hb2 : (len + ys.length) * bb ≤ 140737488355328) :
    ∃ v' w' B' F', (Builtin.append_ #[t, t] ty #[cv, v2]).run P w = .ok v' w' ∧ RepV w' ok (.loc B' 0 (len + ys.length) (len + ys.length) n) v' [] ∧ RowRep w' ok B' ⟨n, xs ++ ys⟩ F' ∧ F'.Nodup ∧ (∀ b ∈ F', (b ∈ F ∨ w.heap.size ≤ b) ∧ ¬ ok b ∧ b < w'.heap.size) ∧
      (∀ q, q < w.heap.size → q ∉ F → w'.heap[q]? = w.heap[q]?) ∧ w.heap.size ≤ w'.heap.size ∧ w'.os = w.os ∧ w'.tape = w.tape ∧ w'.output = w.output ∧ (∀ b m, BlkAt w b [] m → BlkAt w' b [] m) := by
  obtain ⟨g1, inf, g2, g3, g4⟩ := slElem_spec ht
  have hzz : inf.zero = some z := by
    unfold zeroT at hz
    rw [g2] at hz
    simpa using hz
  obtain ⟨cs, hd1, hd2⟩ := hd
  obtain ⟨news, s1, s2⟩ := hsrc
  have hnl : news.length = ys.length * n := s1.length
  have hno : ∀ u ∈ news, u.oneCell' = true := s1.one
  -- what holds of a new row
  have fresh : ∀ (v' : Value) (w' : World) (olds : List Value) (F1 : List Nat), RepL w ok n xs olds F1 → F1.Nodup → (∀ b ∈ F1, b ∈ F) → olds.length = len * n → 0 < len + ys.length → w'.ownsRow w.heap.size e n v' (len + ys.length) (olds ++ news) → w.grownBy w' none →
      ∃ B' F', RepV w' ok (.loc B' 0 (len + ys.length) (len + ys.length) n) v' [] ∧ RowRep w' ok B' ⟨n, xs ++ ys⟩ F' ∧ F'.Nodup ∧ (∀ b ∈ F', (b ∈ F ∨ w.heap.size ≤ b) ∧ ¬ ok b ∧ b < w'.heap.size) ∧
        (∀ q, q < w.heap.size → q ∉ F → w'.heap[q]? = w.heap[q]?) ∧ w.heap.size ≤ w'.heap.size ∧ w'.os = w.os ∧ w'.tape = w.tape ∧ w'.output = w.output ∧ (∀ b m, BlkAt w b [] m → BlkAt w' b [] m) := by
    intro v' w' olds F1 ho hnd1 hsub hol hpos hown hg
    have hsame : ∀ q, q < w.heap.size → w'.heap[q]? = w.heap[q]? := fun q hq => hg.block q hq (by simp)
    have hk : ∀ G : List Nat, (∀ b ∈ G, b < w.heap.size) → Keeps w w' ok ok G := fun G hG => ⟨fun b hb => ⟨hb, hsame b (hok b hb)⟩, fun b hb => hsame b (hG b hb), fun b m hb => hb.keep (hsame b hb.lt)⟩
    rcases hown.2 with ⟨_, h0⟩ | ⟨g, cap, cur, rfl, hgb, hgh, hnc, hcm, hcs, htk⟩
    · omega
    · have hglt : g < w'.heap.size := (Array.getElem?_eq_some_iff.1 hgh).1
      have hpre : olds ++ news <+: cur.toList := by rw [← htk]; exact List.take_prefix _ _
      refine ⟨some g, g :: F1, ⟨[_], ?_, rfl⟩, ⟨olds ++ news, F1, ?_, ⟨cur, e, hgh, hpre, Nat.zero_le _⟩, rfl⟩, ?_, ?_, fun q hq _ => hsame q hq, hg.size, hg.os, hg.tape, hg.output, fun b m hb => hb.keep (hsame b hb.lt)⟩
      · simp only [Rep]
        exact ⟨trivial, cap, by simp, Nat.le_refl _, hnc, cur, e, hgh, by simp, by rw [hcs, Nat.zero_add]; exact Nat.le_refl _⟩
      · have a1 := RepL.keep n xs olds F1 (hk F1 fun b hb => (hFo b (hsub b hb)).2) ho
        have a2 := RepL.keep n ys news [] (hk [] (by simp)) s1
        simpa using a1.append a2
      · exact List.nodup_cons.2 ⟨fun hh => by have := (hFo g (hsub g hh)).2; omega, hnd1⟩
      · intro b hb
        rcases List.mem_cons.1 hb with rfl | hb
        · exact ⟨.inr hgb, fun hh => by have := hok _ hh; omega, hglt⟩
        · obtain ⟨q1, q2⟩ := hFo b (hsub b hb)
          exact ⟨.inl (hsub b hb), q1, by have := hg.size; omega⟩
  cases B with
  | none =>
    simp only [Rep] at hd1
    obtain ⟨_, _, rfl, rfl, rfl⟩ := hd1
    obtain ⟨hx, rfl⟩ := hrow
    simp only at hx
    subst hx
    have hcv : cv = .slice none 0 0 := hd2
    subst hcv
    by_cases hy : ys.length = 0
    · have hy' : ys = [] := List.length_eq_zero_iff.1 hy
      subst hy'
      refine ⟨.slice none 0 0, w, none, [], ?_, ⟨[.slice none 0 0], by simp [Rep], rfl⟩, ⟨rfl, rfl⟩, List.nodup_nil, by simp, fun _ _ _ => rfl, Nat.le_refl _, rfl, rfl, rfl, fun _ _ h => h⟩
      rcases s2 with ⟨⟨c, rfl⟩, _⟩ | ⟨a, c, rfl, _⟩
      · exact run_append_none ht (Nat.le_refl _)
      · exact run_append_none0 ht
    · rcases s2 with ⟨_, h⟩ | ⟨a, c, rfl, hcell⟩
      · rw [h] at hy; simp at hy
      · obtain ⟨v', w', q1, q2, q3, _⟩ := run_append_own (P := P) w w.heap.size t ty e inf z n bb g1 g2 hzz g3 g4 hzs hn (.slice none 0 0) 0 [] ⟨by simp, .inl ⟨rfl, rfl⟩⟩ a ys.length c news hnl hcell hno hb1 hb2 (Nat.le_refl _)
        obtain ⟨B', F', r⟩ := fresh v' w' [] [] (by simp [RepL]) List.nodup_nil (by simp) (by simp) (by omega) (by simpa using q2) q3
        exact ⟨v', w', B', F', q1, r⟩
  | some b =>
    simp only [Rep] at hd1
    obtain ⟨_, cap, rfl, h3, h4, h5⟩ := hd1
    obtain ⟨cells, F1, r1, r2, rfl⟩ := hrow
    simp only at r1
    have hcv : cv = .slice (some ⟨b, 0, none⟩) len cap := by rw [hd2]; simp [wrapV]
    subst hcv
    have hcl : cells.length = len * n := by rw [r1.length, hlen]
    obtain ⟨arr, et, p1, p2, p3⟩ := r2
    have hnd := List.nodup_cons.1 hF
    have hcells : ∀ j u, cells[j]? = some u → w.cell? ((⟨b, 0, none⟩ : Addr).add j) = some u := by
      intro j u hj
      have := BlkAt.cell ⟨arr, et, p1, p2, p3⟩ hj
      by_cases h0 : j = 0
      · subst h0; simpa [Addr.add] using this
      · simpa [Addr.add, h0] using this
    obtain ⟨arr', et', p4, p5, p6⟩ := h5
    rw [p1] at p4
    simp only [Option.some.injEq, Obj.cells.injEq, and_true] at p4
    obtain ⟨rfl, rfl⟩ := p4
    rcases s2 with ⟨⟨c, rfl⟩, hy⟩ | ⟨a, c, rfl, hcell⟩
    · subst hy
      refine ⟨_, w, some b, b :: F1, run_append_none ht (by omega), ⟨[.slice (some ⟨b, 0, none⟩) len cap], ?_, rfl⟩, ⟨cells, F1, by simpa using r1, ⟨arr, et, p1, p2, p3⟩, rfl⟩, hF, fun x hx => ⟨.inl hx, hFo x hx⟩, fun _ _ _ => rfl, Nat.le_refl _, rfl, rfl, rfl, fun _ _ h => h⟩
      simp only [Rep]
      exact ⟨trivial, cap, by simp, by simp, by simp; omega, arr, et, p1, by simp, p6⟩
    · by_cases hfit : len + ys.length ≤ cap
      · -- in place
        have hsz : len * n + ys.length * n ≤ arr.size := by
          have : (len + ys.length) * n ≤ cap * n := Nat.mul_le_mul_right _ hfit
          rw [Nat.add_mul] at this
          rw [Nat.zero_add] at p6
          omega
        obtain ⟨w', hs1, hs2⟩ := run_storeCells (P := P) (b := b) (o := len * n) news 0 w arr p1 (by rw [hnl]; omega) hno
        rw [Nat.add_zero] at hs2
        have hwo := hs2.other
        have hadd : (⟨b, 0, none⟩ : Addr).add (len * n) = ⟨b, len * n, none⟩ := by simp only [Addr.add, Nat.zero_add]; split <;> simp_all
        have hfc := run_firstCells_some (P := P) w n ys.length a ys.length c news hnl hcell
        have hrun : (Builtin.append_ #[t, t] ty #[.slice (some ⟨b, 0, none⟩) len cap, .slice (some a) ys.length c]).run P w = .ok (.slice (some ⟨b, 0, none⟩) (len + ys.length) cap) w' := by
          simp [Builtin.append_, run_underlying g1, sizeOf, typeInfo, g2, g3, Builtin.lenOf, hfit, hfc, hadd, hs1]
        have hov : (ovw arr (len * n) news).toList = arr.toList.take (len * n) ++ (news ++ arr.toList.drop (len * n + news.length)) := ovw_toList news arr _ (by rw [hnl]; omega)
        have hpre : cells ++ news <+: (ovw arr (len * n) news).toList := by
          rw [hov]
          have : arr.toList.take (len * n) = cells := by
            obtain ⟨rest, hr⟩ := p2
            rw [← hr, ← hcl]; simp
          rw [this, ← List.append_assoc]
          exact List.prefix_append _ _
        have hroom := hs2.room p1 (by rw [ovw_size]; exact Nat.le_refl _)
        have hbok : ¬ ok b := (hFo b (by simp)).1
        have hk : ∀ G : List Nat, b ∉ G → Keeps w w' ok ok G := fun G hG => ⟨fun x hx => ⟨hx, hwo x (fun e => hbok (e ▸ hx))⟩, fun x hx => hwo x (fun e => hG (e ▸ hx)), hroom⟩
        refine ⟨_, w', some b, b :: F1, hrun, ⟨[.slice (some ⟨b, 0, none⟩) (len + ys.length) cap], ?_, rfl⟩, ⟨cells ++ news, F1, ?_, ⟨_, et, hs2.at_, hpre, Nat.zero_le _⟩, rfl⟩, hF, fun x hx => ⟨.inl hx, (hFo x hx).1, by rw [hs2.size]; exact (hFo x hx).2⟩, fun q _ hq => hwo q (fun e => hq (by rw [e]; simp)), by rw [hs2.size]; exact Nat.le_refl _, hs2.os, hs2.tape, hs2.output, hroom⟩
        · simp only [Rep]
          exact ⟨trivial, cap, by simp, Nat.le_refl _, hfit, hroom b _ ⟨arr, et, p1, by simp, p6⟩⟩
        · have a1 := RepL.keep n xs cells F1 (hk F1 hnd.1) r1
          have a2 := RepL.keep n ys news [] (hk [] (by simp)) s1
          simpa using a1.append a2
      · obtain ⟨v', w', q1, q2, q3⟩ := run_append_arg_grows (P := P) w t ty e inf z n bb g1 g2 hzz g3 g4 hzs hn ⟨b, 0, none⟩ len cap cells hcl hcells a ys.length c news hnl hcell (by omega) hb1 hb2
        obtain ⟨B', F', r1', r2', r3', r4', r5', r6⟩ := fresh v' w' cells F1 r1 hnd.2 (fun x hx => by simp [hx]) hcl (by omega) q2 q3
        exact ⟨v', w', B', F', q1, r1', r2', r3', r4', r5', r6⟩
end Go.Ax
namespace Go.Ax
theorem SrcAt.ro {w : World} {ok : Nat → Prop} {n : Nat} {ys sp : List AV} {c : Bool} {v : Value} (hn : 0 < n) (h : RepV w ok (.ro n ys sp c) v []) : SrcAt w ok n ys v := by
  obtain ⟨cs, h1, h2⟩ := h
  simp only [Rep] at h1
  obtain ⟨_, A, cap, c1, c2, rfl, h3, h4, h5, h6, h7⟩ := h1
  have hv : v = .slice A ys.length cap := h2
  have hl := h5.length
  refine ⟨c1, h5, ?_⟩
  rcases h7 with h7 | ⟨b, o, rfl, h8⟩
  · have e : c1 = [] := (List.append_eq_nil_iff.1 h7).1
    subst e
    have hy : ys = [] := by
      cases ys with
      | nil => rfl
      | cons a l =>
        simp only [List.length_nil, List.length_cons] at hl
        have : 0 < (l.length + 1) * n := Nat.mul_pos (by omega) hn
        omega
    subst hy
    cases A with
    | none => exact .inl ⟨⟨cap, hv⟩, rfl⟩
    | some a => exact .inr ⟨a, cap, hv, by simp⟩
  · refine .inr ⟨_, cap, hv, fun j u hj => ?_⟩
    have hj' : j < c1.length := (List.getElem?_eq_some_iff.1 hj).1
    have hc := h8.2 j (by simp; omega)
    rw [List.getElem_append_left hj'] at hc
    have hu : c1[j] = u := (List.getElem?_eq_some_iff.1 hj).2
    rw [hu] at hc
    by_cases h0 : j = 0
    · subst h0; simpa [Addr.add] using hc
    · simpa [Addr.add, h0] using hc
theorem SrcAt.row {w : World} {ok : Nat → Prop} {n len k : Nat} {B : Option Nat} {ys : List AV} {F : List Nat} {v : Value} (h : RepV w ok (.loc B 0 len k n) v []) (hr : RowRep w ok B ⟨n, ys⟩ F) (hl : ys.length = len) (hp : plainL ys = true) : SrcAt w ok n ys v := by
  obtain ⟨cs, h1, h2⟩ := h
  cases B with
  | none =>
    simp only [Rep] at h1
    obtain ⟨_, _, rfl, _, rfl⟩ := h1
    obtain ⟨hx, rfl⟩ := hr
    simp only at hx
    subst hx
    exact ⟨[], by simp [RepL], .inl ⟨⟨0, h2⟩, rfl⟩⟩
  | some b =>
    simp only [Rep] at h1
    obtain ⟨_, cap, rfl, h3, h4, h5⟩ := h1
    obtain ⟨cells, F', r1, r2, rfl⟩ := hr
    simp only at r1
    have := plainL_foot n ys cells F' r1 hp
    subst this
    refine ⟨cells, r1, .inr ⟨⟨b, 0, none⟩, cap, ?_, fun j u hj => ?_⟩⟩
    · rw [h2, hl]; simp [wrapV]
    · have hc := r2.cell hj
      by_cases h0 : j = 0
      · subst h0; simpa [Addr.add] using hc
      · simpa [Addr.add, h0] using hc
theorem Leads.own0 {C : Ctx} {s : St} (t n : Nat) (hl : look s.tm t = some (.val (.slice none 0 0))) : Leads C s ⟨(t, .loc none 0 0 0 n) :: s.tm, (none, ⟨n, []⟩) :: s.hp⟩ := by
  intro a w ⟨ok, F, hr⟩
  refine ⟨ok, F, { hr with tm := fun u x hu => ?_, hp := ⟨[], F, rfl, ⟨rfl, rfl⟩, hr.hp⟩ }⟩
  rw [look_cons] at hu
  by_cases e : t = u
  · subst e
    simp only [if_true, Option.some.injEq] at hu
    subst hu
    obtain ⟨cs, g1, g2⟩ := hr.tm t _ hl
    simp only [Rep] at g1
    obtain ⟨_, rfl, _⟩ := g1
    exact ⟨[.slice none 0 0], by simp [Rep], g2⟩
  · rw [if_neg e] at hu; exact hr.tm u x hu
theorem append_oper {P : Program} {a : Act} {w : World} {ty t : TypeId} {x y : Operand} {v' : Value} {w' : World} {d : Option Tmp} {pos : String} {after : Array Edge} {g : Option (Nat × Bool)} (h : (Builtin.append_ #[t, t] ty #[a.eval x, a.eval y]).run P w = .ok v' w') :
    (execOp a.eval ⟨d, .call ⟨.builtin .append, #[x, y], #[t, t]⟩, ty, pos, after, g⟩).run P w = .ok (.value v') w' := by
  simp only [execOp, resolve, Act.eval, Deferred.ofValue, Sem.run_bind, Sem.run_pure, Result.andThen_ok, invoke]
  simp [builtin, h, Sem.run_bind]
theorem AOps.append {P : Program} {C : Ctx} {ops : Array Oper} {K : St → Prop} {s : St} {d : Nat} {t e n bb len k j : Nat} {x y : Operand} {ty : TypeId} {pos : String} {after : Array Edge} {rest : List Oper} {B : Option Nat} {xs ys : List AV} {z : Value} {sv : AV}
    (ht : slElem P t = some (e, n, bb)) (hz : zeroT P e = some z) (hzs : z.cells.size = n) (hn : Nat.blt 0 n = true) (hd : Nat.blt d C.nt = true) (hx : aev s x = some (.loc B 0 len k n)) (hj : s.hp[j]? = some (B, ⟨n, xs⟩)) (hlen : xs.length = len) (hy : aev s y = some sv)
    (hsrc : ∀ a w ok F, RelX C s a w ok F → RepV w ok sv (a.eval y) [] → SrcAt w ok n ys (a.eval y)) (hb1 : len + ys.length ≤ 9223372036854775807) (hb2 : (len + ys.length) * bb ≤ 140737488355328)
    (h : ∀ B', AOps P C ops rest K ⟨(d, .loc B' 0 (len + ys.length) (len + ys.length) n) :: s.tm, s.hp.set j (B', ⟨n, xs ++ ys⟩)⟩) :
    AOps P C ops (⟨some d, .call ⟨.builtin .append, #[x, y], #[t, t]⟩, ty, pos, after, none⟩ :: rest) K s := by
  intro Q a w hQ ⟨ok, F, hr⟩
  obtain ⟨Fp, Fj, Fq, rfl, hrow, hset⟩ := hr.hp.at hj
  have hnd := hr.nodup
  have hndj : Fj.Nodup := (List.nodup_append.1 (List.nodup_append.1 hnd).2.1).1
  obtain ⟨v', w', B', F', q1, q2, q3, q4, q5, q6, q7, q8, q9, q10, q11⟩ := append_core (ty := ty) ht hz hzs (by simpa using hn) (hr.ev hx) hrow hlen hndj (fun b hb => by obtain ⟨_, g2, g3⟩ := hr.own b (by simp [hb]); exact ⟨g2, g3⟩) hr.okLt (hsrc a w ok _ hr (hr.ev hy)) (by unfold maxLen; omega) hb2
  have hr2 := hr.reset (ok' := ok) (j := j) (B' := B') (row' := ⟨n, xs ++ ys⟩) hset q3 q4 q5 (fun _ h => h) (fun b hb => ⟨.inl hb, by have := hr.okLt b hb; omega⟩) q6 q7 q8 q9 q10 q11
  refine wpList_value rfl (append_oper q1) (h B' Q _ _ hQ ⟨ok, _, hr2.put (by simpa using hd) q2⟩)
theorem src_ro {C : Ctx} {s : St} {n : Nat} {ys sp : List AV} {c : Bool} (hn : Nat.blt 0 n = true) {y : Operand} : ∀ a w ok F, RelX C s a w ok F → RepV w ok (.ro n ys sp c) (a.eval y) [] → SrcAt w ok n ys (a.eval y) := fun a w ok F _ h => SrcAt.ro (by simpa using hn) h
theorem src_row {C : Ctx} {s : St} {n len k j2 : Nat} {B : Option Nat} {ys : List AV} {y : Operand} (hj : s.hp[j2]? = some (B, ⟨n, ys⟩)) (hl : ys.length = len) (hp : plainL ys = true) : ∀ a w ok F, RelX C s a w ok F → RepV w ok (.loc B 0 len k n) (a.eval y) [] → SrcAt w ok n ys (a.eval y) := fun a w ok F hr h => by
  obtain ⟨Fp, Fj, Fq, rfl, hrow, _⟩ := hr.hp.at hj
  exact SrcAt.row h hrow hl hp
theorem src_nil {C : Ctx} {s : St} {n : Nat} {y : Operand} : ∀ a w ok F, RelX C s a w ok F → RepV w ok (.val (.slice none 0 0)) (a.eval y) [] → SrcAt w ok n [] (a.eval y) := fun a w ok F _ h => by
  obtain ⟨cs, h1, h2⟩ := h
  simp only [Rep] at h1
  obtain ⟨_, rfl, _⟩ := h1
  exact ⟨[], by simp [RepL], .inl ⟨⟨0, h2⟩, rfl⟩⟩
end Go.Ax
namespace Go.Ax
theorem Yields.clip_ro {P : Program} {C : Ctx} {s : St} {ty : TypeId} {t e n bb : Nat} {x h m : Operand} {xs sp : List AV} {c : Bool} {k k' : IntKind} {u u' : Int} (ht : slElem P t = some (e, n, bb)) (hx : aev s x = some (.ro n xs sp c)) (hh : aev s h = some (.val (.int k u))) (hm : aev s m = some (.val (.int k' u'))) (e1 : u = xs.length) (e2 : u' = xs.length) :
    Yields P C s (.slice t x none (some h) (some m)) ty (.ro n xs [] true) := by
  intro d pos after a w ok F hr
  obtain ⟨cs, g1, g2⟩ := hr.ev hx
  simp only [Rep] at g1
  obtain ⟨_, A, cap, c1, c2, rfl, h3, h4, h5, h6, h7⟩ := g1
  subst e1; subst e2
  have hH := hr.val hh
  have hM := hr.val hm
  obtain ⟨q1, inf, q2, q3, q4⟩ := slElem_spec ht
  have he : P.elem t = e := by simp [Program.elem, q1]
  have hsz : ∀ w, (sizeOf (P.elem t)).run P w = .ok n w := fun w => by rw [he, run_sizeOf' q2, q3]
  have ht' : P.underlying t = some (.slice (P.elem t)) := by rw [he]; exact q1
  have hcap : xs.length ≤ cap := by omega
  have hrun : (Instr.sliceAt t (.slice A xs.length cap) none (some (.int k xs.length)) (some (.int k' xs.length))).run P w = .ok (sliced A 0 xs.length xs.length n) w := by
    rw [run_sliceAt_slice w t _ _ _ _ ht', run_slice_any w t A xs.length cap ht']
    have hb : (Instr.sliceBounds true xs.length cap none (some (.int k xs.length)) (some (.int k' xs.length))).run P w = .ok (0, xs.length, xs.length) w := by
      simp [Instr.sliceBounds, run_sliceBound, hcap]
    rw [hb]
    simp only [Result.andThen_ok]
    rw [hsz]; rfl
  refine ⟨sliced A 0 xs.length xs.length n, ?_, ⟨[sliced A 0 xs.length xs.length n], ?_, rfl⟩⟩
  · simp only [execOp, g2, Option.map_some, Option.map_none, hH, hM]
    exact run_value (by simpa [wrapV] using hrun)
  · simp only [Rep]
    refine ⟨trivial, (if xs.length = 0 then A else A.map (·.add (0 * n))), xs.length, c1, [], by simp [sliced], by simp, by simp, h5, by simp [RepL], ?_⟩
    rcases h7 with h7 | ⟨b, o, rfl, h8⟩
    · exact .inl (by simp at h7; simp [h7.1])
    · refine .inr ⟨b, o, by simp [Addr.add], h8.1, fun j hj => ?_⟩
      simp only [List.append_nil] at hj
      have := h8.2 j (by simp; omega)
      rw [List.getElem_append_left hj] at this
      simpa using this
end Go.Ax
namespace Go.Ax
structure GrowU (G : List Nat) (w : World) (ok : Nat → Prop) (w' : World) (ok' : Nat → Prop) : Prop where
  more : ∀ b, ok b → ok' b
  okN : ∀ b, ok' b → (ok b ∨ b ∈ G ∨ w.heap.size ≤ b) ∧ b < w'.heap.size
  same : ∀ k, k < w.heap.size → k ∉ G → w'.heap[k]? = w.heap[k]?
  size : w.heap.size ≤ w'.heap.size
  os : w'.os = w.os
  tape : w'.tape = w.tape
  output : w'.output = w.output
  room : ∀ b m, BlkAt w b [] m → BlkAt w' b [] m
theorem Grow.u {w w' : World} {ok ok' : Nat → Prop} (g : Grow w ok w' ok') : GrowU [] w ok w' ok' :=
  ⟨g.more, fun b hb => by obtain ⟨h1, h2⟩ := g.okN b hb; exact ⟨h1.imp id .inr, h2⟩, fun k hk _ => g.same k hk, g.size, g.os, g.tape, g.output, fun b m hb => hb.keep (g.same b hb.lt)⟩
def OwnU (C : Ctx) (w : World) (ok : Nat → Prop) (F G : List Nat) : Prop := G.Nodup ∧ ∀ b ∈ G, b ∉ F ∧ ¬ ok b ∧ b < w.heap.size ∧ C.w0.heap.size ≤ b
theorem RelX.growU {C : Ctx} {s : St} {a : Act} {w w' : World} {ok ok' : Nat → Prop} {F G : List Nat} (h : RelX C s a w ok F) (hG : OwnU C w ok F G) (g : GrowU G w ok w' ok') : RelX C s a w' ok' F := by
  have hF : ∀ b ∈ F, b ∉ G := fun b hb hg => (hG.2 b hg).1 hb
  have hk : Keeps w w' ok ok' F := ⟨fun b hb => ⟨g.more b hb, g.same b (h.okLt b hb) (fun hg => (hG.2 b hg).2.1 hb)⟩, fun b hb => g.same b (h.own b hb).2.2 (hF b hb), g.room⟩
  refine { size := h.size, defers := h.defers, tm := h.tmKeep (hk.sub (by simp)), hp := h.hp.keep hk, nodup := h.nodup, own := ?_, okOf := ?_, ok0 := fun b hb => g.more b (h.ok0 b hb), frame := ?_, grown := Nat.le_trans h.grown g.size, room := fun b m hb => g.room b m (h.room b m hb), os := g.os.trans h.os, tape := g.tape.trans h.tape, output := g.output.trans h.output, gl := h.gl, low := h.low, sep := h.sep }
  · intro b hb
    obtain ⟨g1, g2, g3⟩ := h.own b hb
    refine ⟨g1, fun hh => ?_, by have := g.size; omega⟩
    rcases (g.okN b hh).1 with q | q | q
    · exact g2 q
    · exact hF b hb q
    · omega
  · intro b hb
    obtain ⟨g1, g2⟩ := g.okN b hb
    refine ⟨g2, ?_⟩
    rcases g1 with q | q | q
    · exact (h.okOf b q).2
    · exact .inr (.inr (hG.2 b q).2.2.2)
    · exact .inr (.inr (Nat.le_trans h.grown q))
  · intro k hk1 hk2
    rw [g.same k (by have := h.grown; omega) (fun hg => by have := (hG.2 k hg).2.2.2; omega)]
    exact h.frame k hk1 hk2
def DStepU (P : Program) (C : Ctx) (s : St) (us : List (Nat × AV)) (o : Oper) (v : AV) : Prop :=
  ∀ a w ok F G, RelX C s a w ok F → RepT w ok (us.map (·.2)) (us.map fun u => a.tmps.getD u.1 undef) G → OwnU C w ok F G → ∀ (K : Act → World → Prop) (Q : Exit → Act → World → Prop),
    (∀ cv w' ok' G', GrowU G w ok w' ok' → RepV w' ok' v cv G' → G'.Nodup → (∀ b ∈ G', (b ∈ G ∨ w.heap.size ≤ b) ∧ ¬ ok' b ∧ b < w'.heap.size) → K (a.put o.dst cv) w') → o.wp P a w K Q
theorem DStep.u {P : Program} {C : Ctx} {s : St} {o : Oper} {v : AV} (h : DStep P C s o v) : DStepU P C s [] o v := by
  intro a w ok F G hr hu hG K Q hK
  simp only [List.map_nil, RepT] at hu
  obtain ⟨_, rfl⟩ := hu
  exact h a w ok F hr K Q fun cv w' ok' g hv => hK cv w' ok' [] g.u hv List.nodup_nil (by simp)
theorem DStepU.sub {P : Program} {C : Ctx} {tm tm' : List (Nat × AV)} {hp : List (Option Nat × Row)} {us : List (Nat × AV)} {o : Oper} {v : AV} (hs : subT tm tm') (h : DStepU P C ⟨tm', hp⟩ us o v) : DStepU P C ⟨tm, hp⟩ us o v := fun a w ok F G hr hu hG K Q hK =>
  h a w ok F G { hr with tm := fun t u ht => hr.tm t u (look_sub hs t u ht) } hu hG K Q hK
theorem DStepU.keep {P : Program} {C : Ctx} {s : St} {t : Nat} {x p v : AV} {us : List (Nat × AV)} {o : Oper} (hv : View x p) (h : DStepU P C ⟨(t, p) :: s.tm, s.hp⟩ us o v) : DStepU P C s ((t, x) :: us) o v := by
  intro a w ok F G hr hu hG K Q hK
  simp only [List.map_cons, RepT] at hu
  obtain ⟨v0, vs, c1, G1, G2, e1, rfl, h1, h2, h3⟩ := hu
  simp only [List.cons.injEq] at e1
  obtain ⟨e1, rfl⟩ := e1
  have hnd := List.nodup_append.1 hG.1
  have hr1 : RelX C ⟨(t, p) :: s.tm, s.hp⟩ a w (fun b => ok b ∨ b ∈ G1) F := by
    refine { hr with tm := fun u x' hx => ?_, hp := hr.hp.keep (Keeps.more (fun _ h => .inl h) F), own := fun b hb => ?_, okOf := fun b hb => ?_, ok0 := fun b hb => .inl (hr.ok0 b hb) }
    · rw [look_cons] at hx
      by_cases e : t = u
      · subst e
        simp only [if_true, Option.some.injEq] at hx
        subst hx
        exact ⟨c1, hv.2 w ok _ c1 G1 (fun _ h => .inl h) (fun b hb => .inr hb) h1, by rw [e1, h2, wrap_isAgg hv.1]⟩
      · rw [if_neg e] at hx
        exact (hr.tm u x' hx).keep (Keeps.more (fun _ h => .inl h) [])
    · obtain ⟨q1, q2, q3⟩ := hr.own b hb
      refine ⟨q1, fun hh => ?_, q3⟩
      rcases hh with hh | hh
      · exact q2 hh
      · exact (hG.2 b (by simp [hh])).1 hb
    · rcases hb with hb | hb
      · exact hr.okOf b hb |>.imp id fun h => h
      · obtain ⟨_, _, q3, q4⟩ := hG.2 b (by simp [hb]); exact ⟨q3, .inr (.inr q4)⟩
  refine h a w _ F G2 hr1 (RepT.keep _ _ _ (Keeps.more (fun _ h => .inl h) G2) h3) ⟨hnd.2.1, fun b hb => ?_⟩ K Q fun cv w' ok' G' g hv' hn hb' => hK cv w' ok' G' ?_ hv' hn (fun b hb => ?_)
  · obtain ⟨q1, q2, q3, q4⟩ := hG.2 b (by simp [hb])
    exact ⟨q1, fun hh => by rcases hh with hh | hh; exact q2 hh; exact hnd.2.2 b hh b hb rfl, q3, q4⟩
  · refine ⟨fun b hb => g.more b (.inl hb), fun b hb => ?_, fun k hk1 hk2 => g.same k hk1 (fun hh => hk2 (by simp [hh])), g.size, g.os, g.tape, g.output, g.room⟩
    obtain ⟨q1, q2⟩ := g.okN b hb
    refine ⟨?_, q2⟩
    rcases q1 with (q | q) | q | q
    · exact .inl q
    · exact .inr (.inl (by simp [q]))
    · exact .inr (.inl (by simp [q]))
    · exact .inr (.inr q)
  · obtain ⟨q1, q2, q3⟩ := hb' b hb
    refine ⟨?_, q2, q3⟩
    rcases q1 with q | q
    · exact .inl (by simp [q])
    · exact .inr q
theorem DStepU.mv {P : Program} {C : Ctx} {s : St} {t : Nat} {x : AV} {d : Option Tmp} {op : Op} {ty : TypeId} {pos : String} {after : Array Edge} {g : Option (Nat × Bool)} (ho : op = .move (.tmp t) ∨ op = .assign (.tmp t)) : DStepU P C s [(t, x)] ⟨d, op, ty, pos, after, g⟩ x := by
  intro a w ok F G hr hu hG K Q hK
  simp only [List.map_cons, List.map_nil, RepT] at hu
  obtain ⟨v0, vs, c1, G1, G2, e1, rfl, h1, h2, h3, rfl⟩ := hu
  simp only [List.cons.injEq] at e1
  obtain ⟨e1, _⟩ := e1
  have hrun : (execOp a.eval ⟨d, op, ty, pos, after, g⟩).run P w = .ok (.value (a.tmps.getD t undef)) w := by
    rcases ho with rfl | rfl <;> rfl
  unfold Oper.wp
  rw [hrun, Oper.upon_value]
  exact hK _ w ok G1 ⟨fun _ h => h, fun b hb => ⟨.inl hb, hr.okLt b hb⟩, fun _ _ _ => rfl, Nat.le_refl _, rfl, rfl, rfl, fun _ _ h => h⟩ ⟨c1, h1, by rw [e1, h2]⟩ (List.nodup_append.1 hG.1).1 (fun b hb => ⟨.inl (by simp [hb]), (hG.2 b (by simp [hb])).2.1, (hG.2 b (by simp [hb])).2.2.1⟩)
theorem buildSlice_run {P : Program} {C : Ctx} {s : St} {T e n bb len : Nat} {parts : List (Nat × Operand)} {vs : List AV} {z : Value} {a : Act} {w : World} {ok : Nat → Prop} {F : List Nat} (hr : RelX C s a w ok F)
    (hT : slElem P T = some (e, n, bb)) (hz : zeroT P e = some z) (hp : partsL s 0 parts = some vs) (hv : allV (fun v => cellV v && Nat.beq (width v) n) vs = true) (hl : Nat.beq parts.length len = true) (hs : Nat.ble (len * n) 16777216 = true) :
    ∃ cells, RepL w ok n vs cells [] ∧ cells.length = len * n ∧ (Instr.buildSlice T len (parts.toArray.map fun (p : Nat × Operand) => (p.1, a.eval p.2))).run P w = .ok (.slice (some ⟨w.heap.size, 0, none⟩) len len) (w.alloc (.cells (cells ++ []).toArray e)) ∧ vs.length = len := by
  obtain ⟨h1, i, h2, h3, h4⟩ := slElem_spec hT
  have hlen : parts.length = len := Nat.eq_of_beq_eq_true hl
  have hs' : len * n ≤ 16777216 := by simpa using hs
  have key : ∀ arr0 : Array Value, arr0.size = len * n → ∃ cells, RepL w ok n vs cells [] ∧ cells.length = len * n ∧ Instr.fill (fun i => some (i * n, n)) arr0 (parts.map fun p => (p.1, a.eval p.2)) = some cells.toArray := by
    intro arr0 h0
    obtain ⟨cells, k1, k2⟩ := fill_parts hr parts 0 vs arr0 hp hv (by rw [hlen]; simp [h0])
    have hvl : vs.length = parts.length := by
      have : ∀ (parts : List (Nat × Operand)) (k : Nat) (vs : List AV), partsL s k parts = some vs → vs.length = parts.length := by
        intro parts
        induction parts with
        | nil => intro k vs hp; simp only [partsL, Option.some.injEq] at hp; subst hp; rfl
        | cons p parts ih =>
          intro k vs hp
          simp only [partsL] at hp
          split at hp
          · simp only [Option.some.injEq] at hp; subst hp; rename_i g; simp [ih _ _ g]
          · cases hp
      exact this parts 0 vs hp
    have hcl : cells.length = len * n := by rw [k1.length, hvl, hlen]
    refine ⟨cells, k1, hcl, ?_⟩
    rw [k2]
    congr 1
    refine Array.ext' ?_
    rw [ovw_toList cells arr0 (0 * n) (by simp [hcl, h0])]
    simp [hcl, h0]
  have hrun : ∃ cells, RepL w ok n vs cells [] ∧ cells.length = len * n ∧ (Instr.buildSlice T len (parts.toArray.map fun (p : Nat × Operand) => (p.1, a.eval p.2))).run P w = .ok (.slice (some ⟨w.heap.size, 0, none⟩) len len) (w.alloc (.cells (cells ++ []).toArray e)) := by
    have hlst : (parts.toArray.map fun (p : Nat × Operand) => (p.1, a.eval p.2)).toList = parts.map fun p => (p.1, a.eval p.2) := by simp
    unfold Instr.buildSlice
    simp only [Sem.run_bind, run_underlying h1, Result.andThen_ok, run_sizeOf' h2, h3, if_neg (show ¬ len * n > 2 ^ 24 by omega), Sem.run_pure, hlst]
    by_cases h0 : len * n = 0
    · simp only [h0, if_true, Sem.run_pure, Result.andThen_ok]
      obtain ⟨cells, k1, k2, k3⟩ := key ((Array.range 0).map fun x => (#[] : Array Value)[x % (#[] : Array Value).size]!) (by simp [h0])
      refine ⟨cells, k1, by rw [k2, h0], ?_⟩
      simp only [k3, List.append_nil, newRow, Sem.run_bind, run_newObj, Result.andThen_ok, Sem.run_pure]
      rfl
    · simp only [h0, if_false, Sem.run_bind, run_zero' hz, Result.andThen_ok, Sem.run_pure]
      obtain ⟨cells, k1, k2, k3⟩ := key ((Array.range (len * n)).map fun x => z.cells[x % z.cells.size]!) (by simp)
      refine ⟨cells, k1, k2, ?_⟩
      simp only [k3, List.append_nil, newRow, Sem.run_bind, run_newObj, Result.andThen_ok, Sem.run_pure]
      rfl
  obtain ⟨cells, k1, k2, k3⟩ := hrun
  have hvl : vs.length = parts.length := by
    have : ∀ (parts : List (Nat × Operand)) (k : Nat) (vs : List AV), partsL s k parts = some vs → vs.length = parts.length := by
      intro parts
      induction parts with
      | nil => intro k vs hp; simp only [partsL, Option.some.injEq] at hp; subst hp; rfl
      | cons p parts ih =>
        intro k vs hp
        simp only [partsL] at hp
        split at hp
        · simp only [Option.some.injEq] at hp; subst hp; rename_i g; simp [ih _ _ g]
        · cases hp
    exact this parts 0 vs hp
  exact ⟨cells, k1, k2, k3, by rw [hvl, hlen]⟩
theorem own_open {w : World} {ok : Nat → Prop} {n : Nat} {xs : List AV} {v : Value} {G : List Nat} (h : RepV w ok (.own n xs []) v G) : ∃ B, RepV w ok (.loc B 0 xs.length xs.length n) v [] ∧ RowRep w ok B ⟨n, xs⟩ G := by
  obtain ⟨cs, h, e⟩ := h
  simp only [Rep] at h
  rcases h with ⟨rfl, _, rfl, rfl⟩ | ⟨b, cap, c1, c2, F1, F2, rfl, h1, h2, h3, h4, rfl⟩
  · exact ⟨none, ⟨[.slice none 0 0], by simp [Rep], e⟩, rfl, rfl⟩
  · simp only [RepL] at h3
    obtain ⟨rfl, rfl⟩ := h3
    obtain ⟨arr, t, g1, g2, g3⟩ := h4
    simp only [List.length_nil, Nat.add_zero] at h1
    refine ⟨some b, ⟨_, ?_, e⟩, c1, F1, h2, ⟨arr, t, g1, by simpa using g2, Nat.zero_le _⟩, by simp⟩
    simp only [Rep]
    exact ⟨trivial, cap, by simp, Nat.le_refl _, h1, arr, t, g1, by simp, by simpa using g3⟩
theorem own_close {w : World} {ok : Nat → Prop} {n len k : Nat} {xs : List AV} {B : Option Nat} {v : Value} {G : List Nat} (h : RepV w ok (.loc B 0 len k n) v []) (hr : RowRep w ok B ⟨n, xs⟩ G) (hl : xs.length = len) : RepV w ok (.own n xs []) v G := by
  obtain ⟨cs, h, e⟩ := h
  cases B with
  | none =>
    simp only [Rep] at h
    obtain ⟨_, _, rfl, rfl, rfl⟩ := h
    obtain ⟨hx, rfl⟩ := hr
    simp only at hx
    subst hx
    exact ⟨[.slice none 0 0], by simp [Rep], e⟩
  | some b =>
    simp only [Rep] at h
    obtain ⟨_, cap, rfl, g3, g4, g5⟩ := h
    obtain ⟨cells, F', r1, r2, rfl⟩ := hr
    simp only at r1
    refine ⟨_, ?_, e⟩
    simp only [Rep]
    obtain ⟨arr, t', p1, p2, p3⟩ := r2
    obtain ⟨arr', t'', p4, p5, p6⟩ := g5
    rw [p1] at p4
    simp only [Option.some.injEq, Obj.cells.injEq, and_true] at p4
    obtain ⟨rfl, rfl⟩ := p4
    exact .inr ⟨b, cap, cells, [], F', [], by simp [hl], by simp; omega, r1, by simp [RepL], ⟨arr, t', p1, by simpa using p2, by simpa using p6⟩, by simp⟩
theorem DStepU.buildSlice {P : Program} {C : Ctx} {s : St} {d : Option Tmp} {T e n bb len : Nat} {parts : List (Nat × Operand)} {ty : TypeId} {pos : String} {after : Array Edge} {g : Option (Nat × Bool)} {vs : List AV} {z : Value}
    (hT : slElem P T = some (e, n, bb)) (hz : zeroT P e = some z) (hp : partsL s 0 parts = some vs) (hv : allV (fun v => cellV v && Nat.beq (width v) n) vs = true) (hl : Nat.beq parts.length len = true) (hs : Nat.ble (len * n) 16777216 = true) :
    DStepU P C s [] ⟨d, .buildSlice T len parts.toArray, ty, pos, after, g⟩ (.own n vs []) := by
  intro a w ok F G hr hu hG K Q hK
  simp only [List.map_nil, RepT] at hu
  obtain ⟨_, rfl⟩ := hu
  obtain ⟨cells, k1, k2, k3, k4⟩ := buildSlice_run hr hT hz hp hv hl hs
  have hr2 := hr.alloc (T := e) (sp := []) k1
  have hk := keeps_alloc hr.okLt (F := []) (by simp) (.cells (cells ++ []).toArray e)
  unfold Oper.wp
  have hrun : (execOp a.eval ⟨d, .buildSlice T len parts.toArray, ty, pos, after, g⟩).run P w = .ok (.value (.slice (some ⟨w.heap.size, 0, none⟩) len len)) (w.alloc (.cells (cells ++ []).toArray e)) := run_value k3
  rw [hrun, Oper.upon_value]
  refine hK _ _ ok [w.heap.size] ⟨fun _ h => h, fun b hb => ⟨.inl hb, by have := hr.okLt b hb; simp; omega⟩, fun k hk' _ => Go.RowKit.Below.heap_alloc w _ k hk', by simp, rfl, rfl, rfl, hk.room⟩ ⟨[.slice (some ⟨w.heap.size, 0, none⟩) len len], ?_, rfl⟩ (by simp) (fun b hb => ?_)
  · simp only [Rep]
    refine .inr ⟨w.heap.size, len, cells, [], [], [], by rw [k4], by simp [k4], RepL.keep _ _ _ _ hk k1, by simp [RepL], ⟨(cells ++ []).toArray, e, by show (w.heap.push _)[w.heap.size]? = _; simp, by simp, by simp [k2]⟩, by simp⟩
  · simp at hb
    subst hb
    exact ⟨.inr (Nat.le_refl _), fun hh => by have := hr.okLt _ hh; omega, by simp⟩
theorem DStepU.append {P : Program} {C : Ctx} {s : St} {d : Option Tmp} {t T e n bb : Nat} {y : Operand} {ty : TypeId} {pos : String} {after : Array Edge} {g : Option (Nat × Bool)} {xs ys : List AV} {z : Value} {sv : AV}
    (ht : slElem P T = some (e, n, bb)) (hz : zeroT P e = some z) (hzs : z.cells.size = n) (hn : Nat.blt 0 n = true) (hy : aev s y = some sv) (hsrc : ∀ a w ok F, RelX C s a w ok F → RepV w ok sv (a.eval y) [] → SrcAt w ok n ys (a.eval y))
    (hb1 : xs.length + ys.length ≤ 9223372036854775807) (hb2 : (xs.length + ys.length) * bb ≤ 140737488355328) :
    DStepU P C s [(t, .own n xs [])] ⟨d, .call ⟨.builtin .append, #[.tmp t, y], #[T, T]⟩, ty, pos, after, g⟩ (.own n (xs ++ ys) []) := by
  intro a w ok F G hr hu hG K Q hK
  simp only [List.map_cons, List.map_nil, RepT] at hu
  obtain ⟨v0, vs, c1, G1, G2, e1, rfl, h1, h2, h3, rfl⟩ := hu
  simp only [List.cons.injEq] at e1
  obtain ⟨e1, _⟩ := e1
  rw [List.append_nil] at hG hK
  obtain ⟨B, o1, o2⟩ := own_open (v := a.tmps.getD t undef) ⟨c1, h1, by rw [e1, h2]⟩
  obtain ⟨v', w', B', F', q1, q2, q3, q4, q5, q6, q7, q8, q9, q10, q11⟩ := append_core (ty := ty) ht hz hzs (by simpa using hn) o1 o2 rfl hG.1 (fun b hb => ⟨(hG.2 b hb).2.1, (hG.2 b hb).2.2.1⟩) hr.okLt (hsrc a w ok F hr (hr.ev hy)) (by unfold maxLen; omega) hb2
  unfold Oper.wp
  rw [append_oper (x := .tmp t) q1, Oper.upon_value]
  exact hK v' w' ok F' ⟨fun _ h => h, fun b hb => ⟨.inl hb, by have := hr.okLt b hb; omega⟩, q6, q7, q8, q9, q10, q11⟩ (own_close q2 q3 (by simp)) q4 q5
end Go.Ax
namespace Go.Ax
abbrev Ents := List (Nat × Nat × AV)
def conOf (j k : Nat) : List (Nat × Nat) → Bool
  | [] => false
  | (i, m) :: r => cond (Nat.beq i j && Nat.beq m k) true (conOf j k r)
def goneB (j : Nat) : List (Nat × Nat) → Bool
  | [] => false
  | (i, _) :: r => cond (Nat.beq i j) true (goneB j r)
def usesL (con : List (Nat × Nat)) (k : Nat) : Ents → Ents
  | [] => []
  | e :: r => cond (conOf e.1 k con) (e :: usesL con k r) (usesL con k r)
def conU : List (Nat × Nat) → Bool
  | [] => true
  | (i, _) :: r => !goneB i r && conU r
def rstP (b : List Nat) : Ents → List (Nat × AV)
  | [] => []
  | (j, d, v) :: r => cond (memN j b && plainV v) ((d, v) :: rstP b r) (rstP b r)
def noD (t : Nat) : List Oper → Bool
  | [] => true
  | o :: r => cond (match o.dst with | some d => Nat.beq d t | none => false) false (noD t r)
def rstW (ops : List Oper) : List (Nat × AV) → List (Nat × AV)
  | [] => []
  | (t, v) :: r => cond (noD t ops) ((t, v) :: rstW ops r) (rstW ops r)
def DGoodU (P : Program) (C : Ctx) (ops : Array Oper) (s : St) (us : List (Nat × AV)) (o : Oper) (v : AV) : Prop :=
  match o.guard with
  | none => DStepU P C s us o v
  | some (j, want) => ∃ t, guardT ops j = some t ∧ ((∃ b, look s.tm t = some (.val (.bool b)) ∧ ((b = want ∧ DStepU P C s us o v) ∨ ((b == want) = false ∧ v = .tup []))) ∨ (look s.tm t = some (.tup []) ∧ v = .tup []))
def DFin (con : List (Nat × Nat)) (K : St → Prop) : Ents → St → Prop
  | [], s => K s
  | (j, d, v) :: r, s => cond (goneB j con) (DFin con K r ⟨(d, .undef) :: s.tm, s.hp⟩)
      (match v with
        | .own n xs sp => ∀ B, DFin con K r ⟨(d, .loc B 0 xs.length (xs.length + sp.length) n) :: s.tm, (B, ⟨n, xs ++ sp⟩) :: s.hp⟩
        | .agg vs => cond (plainL vs) (DFin con K r ⟨(d, .agg vs) :: s.tm, s.hp⟩) (∀ a' rows, Opn (.agg vs) a' rows → DFin con K r ⟨(d, a') :: s.tm, rows ++ s.hp⟩)
        | v => cond (plainV v) (DFin con K r ⟨(d, v) :: s.tm, s.hp⟩) False)
def DOpsU (P : Program) (C : Ctx) (ops : List Oper) (tm : List (Nat × AV)) (hp : List (Option Nat × Row)) (con : List (Nat × Nat)) (K : St → Prop) : List Oper → Nat → Ents → Prop
  | [], _, done => DFin con K done ⟨rstW ops tm, hp⟩
  | o :: rest, k, done => ∃ d v, o.dst = some d ∧ d < C.nt ∧ ((usesL con k done).all fun e => memN e.1 (befs o)) = true ∧
      DGoodU P C ops.toArray ⟨rstP (befs o) done ++ rstT ops k tm, hp⟩ ((usesL con k done).map fun e => (e.2.1, e.2.2)) o v ∧ DOpsU P C ops tm hp con K rest (k + 1) ((k, d, v) :: done)
theorem usesL_mem {con : List (Nat × Nat)} {k : Nat} : ∀ {l : Ents} {e : Nat × Nat × AV}, e ∈ usesL con k l ↔ e ∈ l ∧ conOf e.1 k con = true
  | [], e => by simp [usesL]
  | x :: l, e => by
    simp only [usesL]
    cases h : conOf x.1 k con with
    | true =>
      simp only [cond_true, List.mem_cons, usesL_mem]
      constructor
      · rintro (rfl | h'); exact ⟨.inl rfl, h⟩; exact ⟨.inr h'.1, h'.2⟩
      · rintro ⟨rfl | h1, h2⟩; exact .inl rfl; exact .inr ⟨h1, h2⟩
    | false =>
      simp only [cond_false, List.mem_cons, usesL_mem]
      constructor
      · rintro ⟨h1, h2⟩; exact ⟨.inr h1, h2⟩
      · rintro ⟨rfl | h1, h2⟩
        · rw [h] at h2; cases h2
        · exact ⟨h1, h2⟩
theorem usesL_nodup {con : List (Nat × Nat)} {k : Nat} : ∀ {l : Ents}, (l.map (·.1)).Nodup → ((usesL con k l).map (·.1)).Nodup
  | [], h => by simp [usesL]
  | x :: l, h => by
    simp only [List.map_cons, List.nodup_cons] at h
    simp only [usesL]
    cases hc : conOf x.1 k con with
    | true =>
      simp only [cond_true, List.map_cons, List.nodup_cons]
      refine ⟨fun hh => h.1 ?_, usesL_nodup h.2⟩
      obtain ⟨y, hy, e⟩ := List.mem_map.1 hh
      exact List.mem_map.2 ⟨y, (usesL_mem.1 hy).1, e⟩
    | false => simpa only [cond_false] using usesL_nodup h.2
theorem conOf_gone {j k : Nat} : ∀ {con : List (Nat × Nat)}, conOf j k con = true → goneB j con = true
  | [], h => by simp [conOf] at h
  | (i, m) :: r, h => by
    simp only [conOf] at h
    simp only [goneB]
    cases hb : Nat.beq i j with
    | true => rfl
    | false => rw [hb] at h; simp only [Bool.false_and, cond_false] at h; simpa using conOf_gone h
theorem conU_at {j k k' : Nat} : ∀ {con : List (Nat × Nat)}, conU con = true → conOf j k con = true → conOf j k' con = true → k = k'
  | [], h, h1, h2 => by simp [conOf] at h1
  | (i, m) :: r, h, h1, h2 => by
    simp only [conU, Bool.and_eq_true, Bool.not_eq_true'] at h
    simp only [conOf] at h1 h2
    cases hb : Nat.beq i j with
    | false =>
      rw [hb] at h1 h2
      simp only [Bool.false_and, cond_false] at h1 h2
      exact conU_at h.2 h1 h2
    | true =>
      have e := Nat.eq_of_beq_eq_true hb
      subst e
      rw [hb] at h1 h2
      simp only [Bool.true_and] at h1 h2
      cases hm : Nat.beq m k with
      | false => rw [hm, cond_false] at h1; rw [conOf_gone h1] at h; cases h.1
      | true =>
        cases hm' : Nat.beq m k' with
        | false => rw [hm', cond_false] at h2; rw [conOf_gone h2] at h; cases h.1
        | true => rw [← Nat.eq_of_beq_eq_true hm, ← Nat.eq_of_beq_eq_true hm']
theorem look_rstP {b : List Nat} : ∀ {l : Ents} {t : Nat} {v : AV}, look (rstP b l) t = some v → ∃ j, (j, t, v) ∈ l ∧ j ∈ b ∧ plainV v = true
  | [], t, v, h => by simp [rstP, look] at h
  | (j, d, u) :: l, t, v, h => by
    simp only [rstP] at h
    cases hb : memN j b && plainV u with
    | false =>
      rw [hb, cond_false] at h
      obtain ⟨i, h1, h2⟩ := look_rstP h
      exact ⟨i, List.mem_cons_of_mem _ h1, h2⟩
    | true =>
      rw [hb, cond_true, look_cons] at h
      simp only [Bool.and_eq_true] at hb
      by_cases e : d = t
      · subst e
        simp only [if_true, Option.some.injEq] at h
        subst h
        exact ⟨j, List.mem_cons_self .., memN_iff.1 hb.1, hb.2⟩
      · rw [if_neg e] at h
        obtain ⟨i, h1, h2⟩ := look_rstP h
        exact ⟨i, List.mem_cons_of_mem _ h1, h2⟩
theorem noD_at {t : Nat} : ∀ {l : List Oper}, noD t l = true → ∀ o ∈ l, o.dst ≠ some t
  | [], h, o, ho => by simp at ho
  | x :: l, h, o, ho => by
    simp only [noD] at h
    cases hb : (match x.dst with | some d => Nat.beq d t | none => false) with
    | true => rw [hb] at h; simp at h
    | false =>
      rw [hb, cond_false] at h
      rcases List.mem_cons.1 ho with rfl | ho
      · intro e
        rw [e] at hb
        simp at hb
      · exact noD_at h o ho
theorem look_rstW {ops : List Oper} : ∀ {l : List (Nat × AV)} {t : Nat} {v : AV}, look (rstW ops l) t = some v → noD t ops = true ∧ look l t = some v
  | [], t, v, h => by simp [rstW, look] at h
  | (d, u) :: l, t, v, h => by
    simp only [rstW] at h
    rw [look_cons]
    cases hb : noD d ops with
    | false =>
      rw [hb, cond_false] at h
      obtain ⟨h1, h2⟩ := look_rstW h
      by_cases e : d = t
      · subst e; rw [hb] at h1; cases h1
      · rw [if_neg e]; exact ⟨h1, h2⟩
    | true =>
      rw [hb, cond_true, look_cons] at h
      by_cases e : d = t
      · subst e; rw [if_pos rfl] at h ⊢; exact ⟨hb, h⟩
      · rw [if_neg e] at h ⊢; exact look_rstW h
theorem reps_us {w : World} {ok : Nat → Prop} {a : Act} {G : Nat → List Nat} : ∀ {us : Ents}, (∀ e ∈ us, RepV w ok e.2.2 (a.tmps.getD e.2.1 undef) (G e.1)) →
    RepT w ok (us.map fun e => e.2.2) (us.map fun e => a.tmps.getD e.2.1 undef) (us.flatMap fun e => G e.1)
  | [], h => by simp [RepT]
  | e :: us, h => by
    obtain ⟨cs, h1, h2⟩ := h e (List.mem_cons_self ..)
    simp only [List.map_cons, List.flatMap_cons, RepT]
    exact ⟨_, _, cs, G e.1, _, rfl, rfl, h1, h2, reps_us fun x hx => h x (List.mem_cons_of_mem _ hx)⟩
theorem flat_nodup {G : Nat → List Nat} : ∀ {us : Ents}, (us.map (·.1)).Nodup → (∀ e ∈ us, (G e.1).Nodup) → (∀ e ∈ us, ∀ e' ∈ us, e.1 ≠ e'.1 → ∀ b ∈ G e.1, b ∉ G e'.1) → (us.flatMap fun e => G e.1).Nodup
  | [], _, _, _ => by simp
  | e :: us, hn, h1, h2 => by
    simp only [List.map_cons, List.nodup_cons] at hn
    rw [List.flatMap_cons]
    refine List.nodup_append.2 ⟨h1 e (List.mem_cons_self ..), flat_nodup hn.2 (fun x hx => h1 x (List.mem_cons_of_mem _ hx)) (fun x hx y hy => h2 x (List.mem_cons_of_mem _ hx) y (List.mem_cons_of_mem _ hy)), ?_⟩
    intro b hb c hc ebc
    subst ebc
    obtain ⟨x, hx, hxb⟩ := List.mem_flatMap.1 hc
    exact h2 e (List.mem_cons_self ..) x (List.mem_cons_of_mem _ hx) (fun e' => hn.1 (List.mem_map.2 ⟨x, hx, e'.symm⟩)) b hb hxb
theorem fin_rel {C : Ctx} {a : Act} {w : World} {ok : Nat → Prop} {con : List (Nat × Nat)} {K : St → Prop} {G : Nat → List Nat} : ∀ (l : Ents) (s : St) (F : List Nat), RelX C s a w ok F → (l.map (·.1)).Nodup →
    (∀ e ∈ l, goneB e.1 con = false → RepV w ok e.2.2 (a.tmps.getD e.2.1 undef) (G e.1) ∧ OwnU C w ok F (G e.1)) → (∀ e ∈ l, ∀ e' ∈ l, e.1 ≠ e'.1 → goneB e.1 con = false → goneB e'.1 con = false → ∀ b ∈ G e.1, b ∉ G e'.1) → DFin con K l s →
    ∃ s' F', RelX C s' a w ok F' ∧ K s'
  | [], s, F, hr, _, _, _, h => ⟨s, F, hr, h⟩
  | (j, d, v) :: l, s, F, hr, hn, hrep, hdis, h => by
    simp only [List.map_cons, List.nodup_cons] at hn
    have putv : ∀ (v' : AV), RepV w ok v' (a.tmps.getD d undef) [] → RelX C ⟨(d, v') :: s.tm, s.hp⟩ a w ok F := by
      intro v' hv
      refine { hr with tm := fun u x hx => ?_ }
      rw [look_cons] at hx
      by_cases e : d = u
      · subst e; simp only [if_true, Option.some.injEq] at hx; subst hx; exact hv
      · rw [if_neg e] at hx; exact hr.tm u x hx
    simp only [DFin] at h
    cases hg : goneB j con with
    | true =>
      rw [hg, cond_true] at h
      exact fin_rel l _ F (putv .undef ⟨[_], by simp [Rep], rfl⟩) hn.2 (fun e he => hrep e (List.mem_cons_of_mem _ he)) (fun e he e' he' => hdis e (List.mem_cons_of_mem _ he) e' (List.mem_cons_of_mem _ he')) h
    | false =>
      rw [hg, cond_false] at h
      obtain ⟨hv, hO⟩ := hrep (j, d, v) (List.mem_cons_self ..) hg
      have plain : (cond (plainV v) (DFin con K l ⟨(d, v) :: s.tm, s.hp⟩) False) → ∃ s' F', RelX C s' a w ok F' ∧ K s' := by
        intro h
        cases hp : plainV v with
        | false => rw [hp, cond_false] at h; exact h.elim
        | true =>
          rw [hp, cond_true] at h
          obtain ⟨cs, h1, h2⟩ := hv
          have := plain_foot _ _ _ h1 hp
          rw [this] at h1
          exact fin_rel l _ F (putv v ⟨cs, h1, h2⟩) hn.2 (fun e he => hrep e (List.mem_cons_of_mem _ he)) (fun e he e' he' => hdis e (List.mem_cons_of_mem _ he) e' (List.mem_cons_of_mem _ he')) h
      cases v with
      | own n xs sp =>
        simp only at h
        obtain ⟨cs, h1, h2⟩ := hv
        obtain ⟨a', rows, o1, o2, o3, o4⟩ := opn_rep _ cs _ h1
        cases o1 with
        | plain _ hq => simp [plainV] at hq
        | own _ _ _ B =>
          have hr1 := putv (.loc B 0 xs.length (xs.length + sp.length) n) ⟨cs, o3, h2⟩
          obtain ⟨F1, F2, e, q1, q2⟩ := o4
          simp only [HpRep] at q2
          subst q2
          rw [List.append_nil] at e
          have hr2 : RelX C ⟨(d, .loc B 0 xs.length (xs.length + sp.length) n) :: s.tm, (B, ⟨n, xs ++ sp⟩) :: s.hp⟩ a w ok (G j ++ F) := by
            refine { hr1 with hp := ⟨G j, F, rfl, by simp only at e; rw [e]; exact q1, hr1.hp⟩, nodup := List.nodup_append.2 ⟨hO.1, hr1.nodup, fun x hx y hy exy => (hO.2 x hx).1 (exy ▸ hy)⟩, own := fun b hb => ?_ }
            rcases List.mem_append.1 hb with hb | hb
            · obtain ⟨_, q2, q3, q4⟩ := hO.2 b hb; exact ⟨.inr q4, q2, q3⟩
            · exact hr1.own b hb
          refine fin_rel l _ _ hr2 hn.2 (fun e he hge => ?_) (fun e he e' he' => hdis e (List.mem_cons_of_mem _ he) e' (List.mem_cons_of_mem _ he')) (h B)
          obtain ⟨r1, r2, r3⟩ := hrep e (List.mem_cons_of_mem _ he) hge
          refine ⟨r1, r2, fun b hb => ⟨fun hh => ?_, (r3 b hb).2⟩⟩
          rcases List.mem_append.1 hh with hh | hh
          · exact hdis e (List.mem_cons_of_mem _ he) (j, d, .own n xs sp) (List.mem_cons_self ..) (fun e' => hn.1 (List.mem_map.2 ⟨e, he, e'⟩)) hge hg b hb hh
          · exact (r3 b hb).1 hh
      | agg vs =>
        simp only at h
        cases hpl : plainL vs with
        | true => rw [hpl, cond_true] at h; exact plain (by simp only [plainV, hpl, cond_true]; exact h)
        | false =>
          rw [hpl, cond_false] at h
          obtain ⟨cs, h1, h2⟩ := hv
          obtain ⟨a', rows, o1, o2, o3, o4⟩ := opn_rep _ cs _ h1
          have hr1 := putv a' ⟨cs, o3, by rw [h2, wrap_isAgg o2]⟩
          have hr2 : RelX C ⟨(d, a') :: s.tm, rows ++ s.hp⟩ a w ok (G j ++ F) := by
            refine { hr1 with hp := HpRep.append o4 hr1.hp, nodup := List.nodup_append.2 ⟨hO.1, hr1.nodup, fun x hx y hy exy => (hO.2 x hx).1 (exy ▸ hy)⟩, own := fun b hb => ?_ }
            rcases List.mem_append.1 hb with hb | hb
            · obtain ⟨_, q2, q3, q4⟩ := hO.2 b hb; exact ⟨.inr q4, q2, q3⟩
            · exact hr1.own b hb
          refine fin_rel l _ _ hr2 hn.2 (fun e he hge => ?_) (fun e he e' he' => hdis e (List.mem_cons_of_mem _ he) e' (List.mem_cons_of_mem _ he')) (h a' rows o1)
          obtain ⟨r1, r2, r3⟩ := hrep e (List.mem_cons_of_mem _ he) hge
          refine ⟨r1, r2, fun b hb => ⟨fun hh => ?_, (r3 b hb).2⟩⟩
          rcases List.mem_append.1 hh with hh | hh
          · exact hdis e (List.mem_cons_of_mem _ he) (j, d, .agg vs) (List.mem_cons_self ..) (fun e' => hn.1 (List.mem_map.2 ⟨e, he, e'⟩)) hge hg b hb hh
          · exact (r3 b hb).1 hh
      | _ => exact plain h
section
variable {P : Program} {C : Ctx} {ops : List Oper} {tm : List (Nat × AV)} {hp : List (Option Nat × Row)} {con : List (Nat × Nat)} {K : St → Prop}
theorem DOpsU.uni : ∀ {l : List Oper} {k : Nat} {done : Ents}, DOpsU P C ops tm hp con K l k done → (∀ x ∈ done, x.1 < k) → (done.map (·.1)).Nodup →
    ∃ al : Ents, (∀ x ∈ done, x ∈ al) ∧ (al.map (·.1)).Nodup ∧ DFin con K al ⟨rstW ops tm, hp⟩ ∧ (∀ x ∈ al, x ∈ done ∨ ∃ j o, l[j]? = some o ∧ x.1 = k + j ∧ o.dst = some x.2.1) ∧
      ∀ j o, l[j]? = some o → ∃ d v dn, o.dst = some d ∧ d < C.nt ∧ (k + j, d, v) ∈ al ∧ (∀ x ∈ dn, x ∈ al) ∧ (dn.map (·.1)).Nodup ∧ ((usesL con (k + j) dn).all fun e => memN e.1 (befs o)) = true ∧
        DGoodU P C ops.toArray ⟨rstP (befs o) dn ++ rstT ops (k + j) tm, hp⟩ ((usesL con (k + j) dn).map fun e => (e.2.1, e.2.2)) o v
  | [], k, done, h, hd, hu => ⟨done, fun _ h => h, hu, h, fun x hx => .inl hx, by simp⟩
  | o :: l, k, done, h, hd, hu => by
    obtain ⟨d, v, h1, h2, h5, h3, h4⟩ := h
    obtain ⟨al, g1, gu, g2, g3, g4⟩ := DOpsU.uni h4 (fun x hx => by
      rcases List.mem_cons.1 hx with rfl | hx
      · exact Nat.lt_succ_self _
      · exact Nat.lt_succ_of_lt (hd x hx)) (by
      simp only [List.map_cons, List.nodup_cons]
      refine ⟨fun hh => ?_, hu⟩
      obtain ⟨y, hy, e⟩ := List.mem_map.1 hh
      have := hd y hy
      omega)
    refine ⟨al, fun x hx => g1 x (List.mem_cons_of_mem _ hx), gu, g2, fun x hx => ?_, fun j o' hj => ?_⟩
    · rcases g3 x hx with g | ⟨j, o', e1, e2, e3⟩
      · rcases List.mem_cons.1 g with rfl | g
        · exact .inr ⟨0, o, rfl, rfl, h1⟩
        · exact .inl g
      · exact .inr ⟨j + 1, o', by simpa using e1, by omega, e3⟩
    · cases j with
      | zero =>
        simp at hj; subst hj
        exact ⟨d, v, done, h1, h2, g1 _ (List.mem_cons_self ..), fun x hx => g1 x (List.mem_cons_of_mem _ hx), hu, h5, h3⟩
      | succ j =>
        obtain ⟨d', v', dn, e1, e2, e3, e4, e5, e6, e7⟩ := g4 j o' (by simpa using hj)
        rw [show k + 1 + j = k + (j + 1) by omega] at e3 e6 e7
        exact ⟨d', v', dn, e1, e2, e3, e4, e5, e6, e7⟩
def liveU (con : List (Nat × Nat)) (listed : Array Bool) (j : Nat) : Prop := listed[j]? = some true ∧ ∀ k : Nat, conOf j k con = true → listed[k]? ≠ some true
structure DInvU (C : Ctx) (ops : List Oper) (tm : List (Nat × AV)) (hp : List (Option Nat × Row)) (con : List (Nat × Nat)) (al : Ents) (listed : Array Bool) (a : Act) (w : World) (ok : Nat → Prop) (F : List Nat) (G : Nat → List Nat) : Prop where
  rel : RelX C ⟨[], hp⟩ a w ok F
  size : listed.size = ops.length
  closed : ∀ (i : Nat) (o : Oper), listed[i]? = some true → ops[i]? = some o → ∀ j ∈ befs o, listed[j]? = some true
  vals : ∀ e ∈ al, liveU con listed e.1 → RepV w ok e.2.2 (a.tmps.getD e.2.1 undef) (G e.1) ∧ OwnU C w ok F (G e.1)
  pls : ∀ e ∈ al, listed[e.1]? = some true → plainV e.2.2 = true → RepV w ok e.2.2 (a.tmps.getD e.2.1 undef) []
  disj : ∀ e ∈ al, ∀ e' ∈ al, liveU con listed e.1 → liveU con listed e'.1 → e.1 ≠ e'.1 → ∀ b ∈ G e.1, b ∉ G e'.1
  olds : ∀ (t : Nat) (v : AV), look tm t = some v → (∀ (j : Nat) (o : Oper), listed[j]? = some true → ops[j]? = some o → o.dst ≠ some t) → RepV w ok v (a.tmps.getD t undef) []
theorem DInvU.rst {al dn : Ents} {listed : Array Bool} {a : Act} {w : World} {ok : Nat → Prop} {F : List Nat} {G : Nat → List Nat} (h : DInvU C ops tm hp con al listed a w ok F G) {k : Nat} {o : Oper} (ho : ops[k]? = some o)
    (hk : listed[k]? ≠ some true) (hb : ∀ j ∈ befs o, listed[j]? = some true) (hdn : ∀ x ∈ dn, x ∈ al) : RelX C ⟨rstP (befs o) dn ++ rstT ops k tm, hp⟩ a w ok F := by
  refine { h.rel with tm := fun t v ht => ?_ }
  rw [look_append] at ht
  cases hl : look (rstP (befs o) dn) t with
  | some u =>
    rw [hl] at ht
    simp only [Option.some.injEq] at ht
    subst ht
    obtain ⟨j, h1, h2, h3⟩ := look_rstP hl
    exact h.pls (j, t, u) (hdn _ h1) (hb j h2) h3
  | none =>
    rw [hl] at ht
    obtain ⟨h1, h2⟩ := look_rstT ht
    refine h.olds t v h2 fun j o' hj ho' hd => ?_
    rcases okT_at h1 ho' hd with e | e
    · have : j = k := by omega
      subst this; exact hk hj
    · exact hk (h.closed j o' hj ho' k e)
theorem nodup_idx {al : Ents} (h : (al.map (·.1)).Nodup) {x y : Nat × Nat × AV} (hx : x ∈ al) (hy : y ∈ al) (e : x.1 = y.1) : x = y := by
  induction al with
  | nil => simp at hx
  | cons z al ih =>
    simp only [List.map_cons, List.nodup_cons] at h
    rcases List.mem_cons.1 hx with hx1 | hx1
    · rcases List.mem_cons.1 hy with hy1 | hy1
      · rw [hx1, hy1]
      · exact (h.1 (List.mem_map.2 ⟨y, hy1, by rw [← e, hx1]⟩)).elim
    · rcases List.mem_cons.1 hy with hy1 | hy1
      · exact (h.1 (List.mem_map.2 ⟨x, hx1, by rw [e, hy1]⟩)).elim
      · exact ih h.2 hx1 hy1
theorem DInvU.put {al us : Ents} {listed : Array Bool} {a : Act} {w w' : World} {ok ok' : Nat → Prop} {F G' : List Nat} {G : Nat → List Nat} (h : DInvU C ops tm hp con al listed a w ok F G) (hdif : difD ops = true) (hcon : conU con = true)
    (hal : ∀ x ∈ al, ∃ o, ops[x.1]? = some o ∧ o.dst = some x.2.1) (huni : (al.map (·.1)).Nodup)
    {k d : Nat} {o : Oper} {v : AV} {cv : Value} (ho : ops[k]? = some o) (hd : o.dst = some d) (hdn : d < C.nt) (hkal : (k, d, v) ∈ al) (hb : ∀ j ∈ befs o, listed[j]? = some true) (hk : listed[k]? ≠ some true)
    (hus : ∀ e ∈ us, e ∈ al ∧ conOf e.1 k con = true ∧ liveU con listed e.1)
    (g : GrowU (us.flatMap fun e => G e.1) w ok w' ok') (hO : OwnU C w ok F (us.flatMap fun e => G e.1)) (hv : RepV w' ok' v cv G') (hn : G'.Nodup) (hG' : ∀ b ∈ G', (b ∈ (us.flatMap fun e => G e.1) ∨ w.heap.size ≤ b) ∧ ¬ ok' b ∧ b < w'.heap.size) :
    DInvU C ops tm hp con al (listed.setIfInBounds k true) (a.put (some d) cv) w' ok' F (fun j => if j = k then G' else G j) := by
  have hsz : d < a.tmps.size := by rw [h.rel.size]; exact hdn
  have hr := h.rel.growU hO g
  have hksz : k < listed.size := by rw [h.size]; exact (List.getElem?_eq_some_iff.1 ho).1
  have hset : ∀ j : Nat, (listed.setIfInBounds k true)[j]? = some true ↔ (j = k ∨ listed[j]? = some true) := by
    intro j
    rw [Array.getElem?_setIfInBounds]
    by_cases e : k = j
    · subst e; simp [hksz]
    · rw [if_neg e]
      constructor
      · exact .inr
      · rintro (e' | e')
        · exact absurd e'.symm e
        · exact e'
  -- what lives on
  have lives : ∀ j : Nat, j ≠ k → liveU con (listed.setIfInBounds k true) j → liveU con listed j ∧ conOf j k con = false := by
    intro j hjk ⟨q1, q2⟩
    refine ⟨⟨((hset j).1 q1).resolve_left hjk, fun m hm hl => q2 m hm ((hset m).2 (.inr hl))⟩, ?_⟩
    cases hc : conOf j k con with
    | false => rfl
    | true => exact absurd ((hset k).2 (.inl rfl)) (q2 k hc)
  have apart : ∀ x ∈ al, liveU con listed x.1 → conOf x.1 k con = false → ∀ b ∈ G x.1, b ∉ us.flatMap fun e => G e.1 := by
    intro x hx hj hc b hbj hbu
    obtain ⟨e, he, hbe⟩ := List.mem_flatMap.1 hbu
    obtain ⟨q1, q2, q3⟩ := hus e he
    exact h.disj x hx e q1 hj q3 (fun e' => by rw [e'] at hc; rw [hc] at q2; cases q2) b hbj hbe
  have hkeep : ∀ H : List Nat, (∀ b ∈ H, b ∉ us.flatMap fun e => G e.1) → (∀ b ∈ H, b < w.heap.size) → Keeps w w' ok ok' H := fun H h1 h2 =>
    ⟨fun b hb => ⟨g.more b hb, g.same b (h.rel.okLt b hb) (fun hg => (hO.2 b hg).2.1 hb)⟩, fun b hb => g.same b (h2 b hb) (h1 b hb), g.room⟩
  have neD : ∀ e ∈ al, e.1 ≠ k → d ≠ e.2.1 := by
    intro e he hne e'
    obtain ⟨o', g1, g2⟩ := hal e he
    exact hne (difD_at hdif g1 ho (by rw [g2, ← e']) hd)
  refine ⟨?_, by simp [h.size], ?_, ?_, ?_, ?_, ?_⟩
  · exact { hr with size := by simp [Act.put, hr.size], defers := hr.defers, tm := fun t u ht => by simp [look] at ht }
  · intro i o' hi ho' j hj
    rw [hset] at hi ⊢
    rcases hi with rfl | hi
    · rw [ho] at ho'; cases ho'; exact .inr (hb j hj)
    · exact .inr (h.closed i o' hi ho' j hj)
  · intro e he hl
    by_cases hek : e.1 = k
    · have e1 : e = (k, d, v) := nodup_idx huni he hkal hek
      subst e1
      simp only [if_true]
      rw [getD_put_self hsz]
      refine ⟨hv, hn, fun b hbG => ?_⟩
      obtain ⟨q1, q2, q3⟩ := hG' b hbG
      refine ⟨fun hbF => ?_, q2, q3, ?_⟩
      · rcases q1 with q | q
        · exact (hO.2 b q).1 hbF
        · have := (h.rel.own b hbF).2.2; omega
      · rcases q1 with q | q
        · exact (hO.2 b q).2.2.2
        · exact Nat.le_trans h.rel.grown q
    · obtain ⟨q1, q2⟩ := lives e.1 hek hl
      obtain ⟨r1, r2, r3⟩ := h.vals e he q1
      rw [if_neg hek, getD_put_ne (neD e he hek)]
      refine ⟨r1.keep (hkeep _ (apart e he q1 q2) (fun b hb => (r3 b hb).2.2.1)), r2, fun b hbG => ?_⟩
      obtain ⟨s1, s2, s3, s4⟩ := r3 b hbG
      refine ⟨s1, fun hh => ?_, by have := g.size; omega, s4⟩
      rcases (g.okN b hh).1 with q | q | q
      · exact s2 q
      · exact apart e he q1 q2 b hbG q
      · omega
  · intro e he hl hpl
    by_cases hek : e.1 = k
    · have e1 : e = (k, d, v) := nodup_idx huni he hkal hek
      subst e1
      rw [getD_put_self hsz]
      obtain ⟨cs, q1, q2⟩ := hv
      have := plain_foot _ _ _ q1 hpl
      subst this
      exact ⟨cs, q1, q2⟩
    · rw [getD_put_ne (neD e he hek)]
      exact (h.pls e he (((hset e.1).1 hl).resolve_left hek) hpl).keep (hkeep [] (by simp) (by simp))
  · intro x hx y hy hlx hly hxy b hbx hby
    by_cases e1 : x.1 = k
    · have hyk : y.1 ≠ k := fun e => hxy (by rw [e1, e])
      rw [if_pos e1] at hbx
      rw [if_neg hyk] at hby
      obtain ⟨q1, q2⟩ := lives y.1 hyk hly
      rcases (hG' b hbx).1 with q | q
      · exact apart y hy q1 q2 b hby q
      · have := ((h.vals y hy q1).2.2 b hby).2.2.1; omega
    · rw [if_neg e1] at hbx
      obtain ⟨q1, q2⟩ := lives x.1 e1 hlx
      by_cases e2 : y.1 = k
      · rw [if_pos e2] at hby
        rcases (hG' b hby).1 with q | q
        · exact apart x hx q1 q2 b hbx q
        · have := ((h.vals x hx q1).2.2 b hbx).2.2.1; omega
      · rw [if_neg e2] at hby
        exact h.disj x hx y hy q1 (lives y.1 e2 hly).1 hxy b hbx hby
  · intro t u ht hno
    have hne : d ≠ t := by
      intro e
      subst e
      exact hno k o ((hset k).2 (.inl rfl)) ho hd
    rw [getD_put_ne hne]
    exact (h.olds t u ht fun j o' hj ho' => hno j o' ((hset j).2 (.inr hj)) ho').keep (hkeep [] (by simp) (by simp))
theorem DInvU.step {al dn : Ents} {listed : Array Bool} {a : Act} {w : World} {ok : Nat → Prop} {F : List Nat} {G : Nat → List Nat} (h : DInvU C ops tm hp con al listed a w ok F G) (hdif : difD ops = true) (hcon : conU con = true)
    (hal : ∀ x ∈ al, ∃ o, ops[x.1]? = some o ∧ o.dst = some x.2.1) (huni : (al.map (·.1)).Nodup)
    {k d : Nat} {o : Oper} {v : AV} (ho : ops[k]? = some o) (hd : o.dst = some d) (hdn : d < C.nt) (hkal : (k, d, v) ∈ al) (hb : ∀ j ∈ befs o, listed[j]? = some true) (hk : listed[k]? ≠ some true) (hdone : ∀ x ∈ dn, x ∈ al) (hdu : (dn.map (·.1)).Nodup)
    (hue : ((usesL con k dn).all fun e => memN e.1 (befs o)) = true) (hg : DGoodU P C ops.toArray ⟨rstP (befs o) dn ++ rstT ops k tm, hp⟩ ((usesL con k dn).map fun e => (e.2.1, e.2.2)) o v) {Q : Exit → Act → World → Prop} {K : Act → World → Prop}
    (hK : ∀ a' w' ok' G', DInvU C ops tm hp con al (listed.setIfInBounds k true) a' w' ok' F G' → K a' w') : wpOp P ops.toArray Q k K a w := by
  have hr := h.rst ho hk hb hdone
  have hus : ∀ e ∈ usesL con k dn, e ∈ al ∧ conOf e.1 k con = true ∧ liveU con listed e.1 := by
    intro e he
    obtain ⟨q1, q2⟩ := usesL_mem.1 he
    refine ⟨hdone e q1, q2, hb e.1 (memN_iff.1 (List.all_eq_true.1 hue e he)), fun m hm => ?_⟩
    rw [conU_at hcon hm q2]; exact hk
  have hun := usesL_nodup (con := con) (k := k) hdu
  have hO : OwnU C w ok F ((usesL con k dn).flatMap fun e => G e.1) := by
    refine ⟨flat_nodup hun (fun e he => ?_) (fun e he e' he' hne b hbe => ?_), fun b hbG => ?_⟩
    · obtain ⟨q1, _, q3⟩ := hus e he; exact (h.vals e q1 q3).2.1
    · obtain ⟨q1, _, q3⟩ := hus e he
      obtain ⟨r1, _, r3⟩ := hus e' he'
      exact h.disj e q1 e' r1 q3 r3 hne b hbe
    · obtain ⟨e, he, hbe⟩ := List.mem_flatMap.1 hbG
      obtain ⟨q1, _, q3⟩ := hus e he
      exact (h.vals e q1 q3).2.2 b hbe
  have hreps : RepT w ok (((usesL con k dn).map fun e => (e.2.1, e.2.2)).map (·.2)) (((usesL con k dn).map fun e => (e.2.1, e.2.2)).map fun u => a.tmps.getD u.1 undef) ((usesL con k dn).flatMap fun e => G e.1) := by
    have := reps_us (w := w) (ok := ok) (a := a) (G := G) (us := usesL con k dn) (fun e he => by obtain ⟨q1, _, q3⟩ := hus e he; exact (h.vals e q1 q3).1)
    simpa [List.map_map, Function.comp_def] using this
  have hstep : ∀ (hs : DStepU P C ⟨rstP (befs o) dn ++ rstT ops k tm, hp⟩ ((usesL con k dn).map fun e => (e.2.1, e.2.2)) o v), o.wp P a w K Q := fun hs =>
    hs a w ok F _ hr hreps hO K Q fun cv w' ok' G' g hv hn hG' => by
      rw [hd]
      exact hK _ _ _ _ (h.put hdif hcon hal huni ho hd hdn hkal hb hk hus g hO hv hn hG')
  have hskip : v = .tup [] → K (a.put o.dst undef) w := fun e => by
    subst e
    rw [hd]
    exact hK _ _ _ _ (h.put hdif hcon hal huni ho hd hdn hkal hb hk hus ⟨fun _ h => h, fun b hb => ⟨.inl hb, h.rel.okLt b hb⟩, fun _ _ _ => rfl, Nat.le_refl _, rfl, rfl, rfl, fun _ _ h => h⟩ hO (repV_skipped w ok) List.nodup_nil (by simp))
  unfold wpOp
  have ho' : ops.toArray[k]? = some o := by simpa using ho
  rw [ho']
  simp only
  unfold DGoodU at hg
  cases hgd : o.guard with
  | none =>
    rw [hgd] at hg
    rw [if_pos (by simp [Region.wanted, hgd])]
    exact .inl (hstep hg)
  | some p =>
    obtain ⟨j, want⟩ := p
    rw [hgd] at hg
    simp only at hg
    obtain ⟨t, ht, ⟨b, hl, ⟨rfl, hs⟩ | ⟨hne, e⟩⟩ | ⟨hl, e⟩⟩ := hg
    · rw [if_pos (by rw [wanted_eq hr hgd ht hl]; simp)]
      exact .inl (hstep hs)
    · rw [if_neg (by rw [wanted_eq hr hgd ht hl, hne]; simp)]
      exact hskip e
    · rw [if_neg (by rw [wanted_skip hr hgd ht hl]; simp)]
      exact hskip e
theorem anyU_of_inv {al : Ents} (hdif : difD ops = true) (hback : backB 0 ops = true) (hcon : conU con = true)
    (hal : ∀ x ∈ al, ∃ o, ops[x.1]? = some o ∧ o.dst = some x.2.1) (huni : (al.map (·.1)).Nodup)
    (hgood : ∀ j o, ops[j]? = some o → ∃ d v dn, o.dst = some d ∧ d < C.nt ∧ (j, d, v) ∈ al ∧ (∀ x ∈ dn, x ∈ al) ∧ (dn.map (·.1)).Nodup ∧ ((usesL con j dn).all fun e => memN e.1 (befs o)) = true ∧
        DGoodU P C ops.toArray ⟨rstP (befs o) dn ++ rstT ops j tm, hp⟩ ((usesL con j dn).map fun e => (e.2.1, e.2.2)) o v)
    {Q : Exit → Act → World → Prop} (hfin : DFin con K al ⟨rstW ops tm, hp⟩) (hQ : ∀ s a w, Rel C s a w → K s → Q .normal a w) :
    ∀ (fuel : Nat) (listed : Array Bool) (a : Act) (w : World) (ok : Nat → Prop) (F : List Nat) (G : Nat → List Nat), left listed ≤ fuel → DInvU C ops tm hp con al listed a w ok F G → wpAny P .any ops.toArray Q fuel listed a w := by
  have done : ∀ (listed : Array Bool) (a : Act) (w : World) (ok : Nat → Prop) (F : List Nat) (G : Nat → List Nat), DInvU C ops tm hp con al listed a w ok F G → Region.ready .any ops.toArray listed = [] → Q .normal a w := by
    intro listed a w ok F G h hr
    have hall := all_listed h.size hback hr
    have hr0 : RelX C ⟨rstW ops tm, hp⟩ a w ok F := by
      refine { h.rel with tm := fun t v ht => ?_ }
      obtain ⟨h1, h2⟩ := look_rstW ht
      exact h.olds t v h2 fun j o hj ho hd => noD_at h1 o (List.mem_of_getElem? ho) hd
    have live : ∀ e ∈ al, goneB e.1 con = false → liveU con listed e.1 := by
      intro e he hg
      obtain ⟨o, g1, g2⟩ := hal e he
      refine ⟨hall e.1 (List.getElem?_eq_some_iff.1 g1).1, fun m hm => ?_⟩
      rw [conOf_gone hm] at hg; cases hg
    obtain ⟨s', F', r1, r2⟩ := fin_rel (G := G) al ⟨rstW ops tm, hp⟩ F hr0 huni (fun e he hg => h.vals e he (live e he hg)) (fun e he e' he' hne hg hg' => h.disj e he e' he' (live e he hg) (live e' he' hg') hne) hfin
    exact hQ s' a w ⟨ok, F', r1⟩ r2
  intro fuel
  induction fuel with
  | zero =>
    intro listed a w ok F G hl h
    have hnil : Region.ready .any ops.toArray listed = [] := by
      cases hr : Region.ready .any ops.toArray listed with
      | nil => rfl
      | cons i r =>
        exfalso
        obtain ⟨o, ho, h2, h3⟩ := (ready_iff h.size).1 (by rw [hr]; exact List.mem_cons_self ..)
        have := left_set (by rw [h.size]; exact (List.getElem?_eq_some_iff.1 ho).1) h2
        omega
    exact ⟨hnil, done listed a w ok F G h hnil⟩
  | succ fuel ih =>
    intro listed a w ok F G hl h
    refine ⟨done listed a w ok F G h, fun i hi => ?_⟩
    obtain ⟨o, ho, h2, h3⟩ := (ready_iff h.size).1 hi
    obtain ⟨d, v, dn, e1, e2, e3, e4, e5, e6, e7⟩ := hgood i o ho
    refine h.step hdif hcon hal huni ho e1 e2 e3 h3 h2 e4 e5 e6 e7 fun a' w' ok' G' h' => ?_
    have := left_set (by rw [h.size]; exact (List.getElem?_eq_some_iff.1 ho).1) h2
    exact ih _ a' w' ok' F G' (by omega) h'
end
theorem AWP.drawnU {P : Program} {C : Ctx} {Q : Exit → St → Prop} {id : Nat} {ops : List Oper} {tm : List (Nat × AV)} {hp : List (Option Nat × Row)} (con : List (Nat × Nat)) (hm : P.follows .mixedOrders = true) (hdif : difD ops = true) (hback : backB 0 ops = true) (hcon : conU con = true)
    (h : DOpsU P C ops tm hp con (fun s' => Q .normal s') ops 0 []) : AWP P C (.region id ops.toArray true) Q ⟨tm, hp⟩ := by
  intro R a w hR ⟨ok, F, hr⟩
  refine wp_region_any hm ?_
  obtain ⟨al, -, huni, hK, hal, hgood⟩ := DOpsU.uni h (by simp) (by simp)
  refine anyU_of_inv (tm := tm) (hp := hp) (K := fun s' => Q .normal s') hdif hback hcon (fun x hx => ?_) huni (fun j o ho => ?_) hK (fun s a' w' hr' hk => hR _ _ _ _ hr' hk) _ _ _ _ ok F (fun _ => []) ?_ ?_
  · rcases hal x hx with g | ⟨j, o, e1, e2, e3⟩
    · simp at g
    · exact ⟨o, by rw [e2, Nat.zero_add]; exact e1, e3⟩
  · have := hgood j o ho
    simpa using this
  · unfold left
    refine Nat.le_trans (List.length_filter_le _ _) ?_
    simp
  · have hno : ∀ i : Nat, (Array.replicate ops.toArray.size false)[i]? ≠ some true := by
      intro i e
      rw [Array.getElem?_replicate] at e
      split at e <;> simp at e
    exact ⟨{ hr.drew with tm := fun t v ht => by simp [look] at ht }, by simp, fun (i : Nat) o hi => absurd hi (hno i), fun e _ hl => absurd hl.1 (hno e.1), fun e _ hl => absurd hl (hno e.1), fun e _ e' _ hl => absurd hl.1 (hno e.1), fun t v ht _ => hr.drew.tm t v ht⟩
end Go.Ax
namespace Go.Ax
section
variable {P : Program} {C : Ctx} {ops : List Oper} {tm : List (Nat × AV)} {hp : List (Option Nat × Row)} {con : List (Nat × Nat)} {K : St → Prop} {k : Nat} {done : Ents}
theorem DU {tm' : List (Nat × AV)} {d : Nat} {op : Op} {ty : TypeId} {pos : String} {after : Array Edge} {rest : List Oper} {v : AV} (hs : subT (rstP (befs ⟨some d, op, ty, pos, after, none⟩) done ++ rstT ops k tm) tm') (hu : usesL con k done = [])
    (hv : DStep P C ⟨tm', hp⟩ ⟨some d, op, ty, pos, after, none⟩ v) (hd : Nat.blt d C.nt = true) (h : DOpsU P C ops tm hp con K rest (k + 1) ((k, d, v) :: done)) : DOpsU P C ops tm hp con K (⟨some d, op, ty, pos, after, none⟩ :: rest) k done :=
  ⟨d, v, rfl, by simpa using hd, by rw [hu]; rfl, by rw [hu]; exact (DStep.u (DStep.sub hs hv)), h⟩
theorem DUs {tm' us : List (Nat × AV)} {d : Nat} {op : Op} {ty : TypeId} {pos : String} {after : Array Edge} {rest : List Oper} {v : AV} (hs : subT (rstP (befs ⟨some d, op, ty, pos, after, none⟩) done ++ rstT ops k tm) tm') (hu : ((usesL con k done).map fun e => (e.2.1, e.2.2)) = us)
    (hb : ((usesL con k done).all fun e => memN e.1 (befs ⟨some d, op, ty, pos, after, none⟩)) = true) (hv : DStepU P C ⟨tm', hp⟩ us ⟨some d, op, ty, pos, after, none⟩ v) (hd : Nat.blt d C.nt = true) (h : DOpsU P C ops tm hp con K rest (k + 1) ((k, d, v) :: done)) :
    DOpsU P C ops tm hp con K (⟨some d, op, ty, pos, after, none⟩ :: rest) k done :=
  ⟨d, v, rfl, by simpa using hd, hb, by rw [hu]; exact DStepU.sub hs hv, h⟩
theorem DOpsU.on {d : Option Tmp} {op : Op} {ty : TypeId} {pos : String} {after : Array Edge} {rest : List Oper} {j t : Nat} {b : Bool} (ht : guardT ops.toArray j = some t) (hl : look (rstP (befs ⟨d, op, ty, pos, after, none⟩) done ++ rstT ops k tm) t = some (.val (.bool b)))
    (h : DOpsU P C ops tm hp con K (⟨d, op, ty, pos, after, none⟩ :: rest) k done) : DOpsU P C ops tm hp con K (⟨d, op, ty, pos, after, some (j, b)⟩ :: rest) k done := by
  obtain ⟨e, v, h1, h2, h5, h3, h4⟩ := h
  exact ⟨e, v, h1, h2, h5, ⟨t, ht, .inl ⟨b, hl, .inl ⟨rfl, h3⟩⟩⟩, h4⟩
theorem DOpsU.off {d : Nat} {op : Op} {ty : TypeId} {pos : String} {after : Array Edge} {rest : List Oper} {j t : Nat} {b want : Bool} (hb : ((usesL con k done).all fun e => memN e.1 (befs ⟨some d, op, ty, pos, after, none⟩)) = true) (hd : Nat.blt d C.nt = true) (ht : guardT ops.toArray j = some t)
    (hl : look (rstP (befs ⟨some d, op, ty, pos, after, none⟩) done ++ rstT ops k tm) t = some (.val (.bool b))) (hne : (b == want) = false)
    (h : DOpsU P C ops tm hp con K rest (k + 1) ((k, d, .tup []) :: done)) : DOpsU P C ops tm hp con K (⟨some d, op, ty, pos, after, some (j, want)⟩ :: rest) k done :=
  ⟨d, .tup [], rfl, by simpa using hd, hb, ⟨t, ht, .inl ⟨b, hl, .inr ⟨hne, rfl⟩⟩⟩, h⟩
theorem DOpsU.offU {d : Nat} {op : Op} {ty : TypeId} {pos : String} {after : Array Edge} {rest : List Oper} {j t : Nat} {want : Bool} (hb : ((usesL con k done).all fun e => memN e.1 (befs ⟨some d, op, ty, pos, after, none⟩)) = true) (hd : Nat.blt d C.nt = true) (ht : guardT ops.toArray j = some t)
    (hl : look (rstP (befs ⟨some d, op, ty, pos, after, none⟩) done ++ rstT ops k tm) t = some (.tup []))
    (h : DOpsU P C ops tm hp con K rest (k + 1) ((k, d, .tup []) :: done)) : DOpsU P C ops tm hp con K (⟨some d, op, ty, pos, after, some (j, want)⟩ :: rest) k done :=
  ⟨d, .tup [], rfl, by simpa using hd, hb, ⟨t, ht, .inr ⟨hl, rfl⟩⟩, h⟩
theorem DOpsU.split {l : List Oper} {b : Bool} (i : Nat) (hl : valD i done = some (.val (.bool b)))
    (h1 : b = true → DOpsU P C ops tm hp con K l k (setD i (.val (.bool true)) done)) (h2 : b = false → DOpsU P C ops tm hp con K l k (setD i (.val (.bool false)) done)) : DOpsU P C ops tm hp con K l k done := by
  cases b with
  | true => have := h1 rfl; rwa [setD_same hl] at this
  | false => have := h2 rfl; rwa [setD_same hl] at this
theorem DOpsU.nil (h : DFin con K done ⟨rstW ops tm, hp⟩) : DOpsU P C ops tm hp con K [] k done := h
end
theorem DStepU.appendNew {P : Program} {C : Ctx} {s : St} {d : Option Tmp} {T e n bb : Nat} {x y : Operand} {ty : TypeId} {pos : String} {after : Array Edge} {g : Option (Nat × Bool)} {xs ys : List AV} {z : Value} {sv : AV}
    (ht : slElem P T = some (e, n, bb)) (hz : zeroT P e = some z) (hzs : z.cells.size = n) (hn : Nat.blt 0 n = true) (hx : aev s x = some (.ro n xs [] true)) (hy : aev s y = some sv) (hsrc : ∀ a w ok F, RelX C s a w ok F → RepV w ok sv (a.eval y) [] → SrcAt w ok n ys (a.eval y))
    (hpos : 0 < ys.length) (hb1 : xs.length + ys.length ≤ 9223372036854775807) (hb2 : (xs.length + ys.length) * bb ≤ 140737488355328) :
    DStepU P C s [] ⟨d, .call ⟨.builtin .append, #[x, y], #[T, T]⟩, ty, pos, after, g⟩ (.own n (xs ++ ys) []) := by
  intro a w ok F G hr hu hG K Q hK
  simp only [List.map_nil, RepT] at hu
  obtain ⟨_, rfl⟩ := hu
  have hn' : 0 < n := by simpa using hn
  obtain ⟨g1, inf, g2, g3, g4⟩ := slElem_spec ht
  have hzz : inf.zero = some z := by
    unfold zeroT at hz
    rw [g2] at hz
    simpa using hz
  obtain ⟨cs, h1, h2⟩ := hr.ev hx
  simp only [Rep] at h1
  obtain ⟨_, A, cap, c1, c2, rfl, h3, h4, h5, h6, h7⟩ := h1
  have hcap : cap = xs.length := by simpa using h4 trivial
  subst hcap
  simp only [RepL] at h6
  obtain ⟨rfl, _⟩ := h6
  have hcv : a.eval x = .slice A xs.length xs.length := h2
  obtain ⟨news, s1, s2⟩ := hsrc a w ok F hr (hr.ev hy)
  have hnl : news.length = ys.length * n := s1.length
  rcases s2 with ⟨_, hy0⟩ | ⟨ad, c, hv2, hcell⟩
  · rw [hy0] at hpos; simp at hpos
  have hlo : c1.length = xs.length * n := h5.length
  have main : ∃ v' w', (Builtin.append_ #[T, T] ty #[a.eval x, a.eval y]).run P w = .ok v' w' ∧ w'.ownsRow w.heap.size e n v' (xs.length + ys.length) (c1 ++ news) ∧ w.grownBy w' none := by
    rw [hcv, hv2]
    cases A with
    | none =>
      have hc1 : c1 = [] := by
        rcases h7 with h7 | ⟨b, o, e', _⟩
        · simpa using h7
        · cases e'
      have hxs : xs.length = 0 := by
        rw [hc1] at hlo
        simp only [List.length_nil] at hlo
        rcases Nat.eq_zero_or_pos xs.length with h0 | h0
        · exact h0
        · have : 0 < xs.length * n := Nat.mul_pos h0 hn'
          omega
      have hb2' : (0 + ys.length) * bb ≤ 140737488355328 := by rw [← hxs]; exact hb2
      rw [hxs, hc1]
      obtain ⟨v', w', q1, q2, q3, _⟩ := run_append_own (P := P) w w.heap.size T ty e inf z n bb g1 g2 hzz g3 g4 hzs hn' (.slice none 0 0) 0 [] ⟨by simp, .inl ⟨rfl, rfl⟩⟩ ad ys.length c news hnl hcell s1.one (by unfold maxLen; omega) hb2' (Nat.le_refl _)
      exact ⟨v', w', q1, q2, q3⟩
    | some ao =>
      refine run_append_arg_grows (P := P) w T ty e inf z n bb g1 g2 hzz g3 g4 hzs hn' ao xs.length xs.length c1 hlo (fun j u hj => ?_) ad ys.length c news hnl hcell (by omega) (by unfold maxLen; omega) hb2
      rcases h7 with h7 | ⟨b, o, e', h8⟩
      · simp at h7; rw [h7] at hj; simp at hj
      · simp only [Option.some.injEq] at e'
        subst e'
        have hj' : j < c1.length := (List.getElem?_eq_some_iff.1 hj).1
        have hc := h8.2 j (by simpa using hj')
        rw [List.getElem_append_left hj'] at hc
        have hu : c1[j] = u := (List.getElem?_eq_some_iff.1 hj).2
        rw [hu] at hc
        by_cases h0 : j = 0
        · subst h0; simpa [Addr.add] using hc
        · simpa [Addr.add, h0] using hc
  obtain ⟨v', w', q1, q2, q3⟩ := main
  have hsame : ∀ q, q < w.heap.size → w'.heap[q]? = w.heap[q]? := fun q hq => q3.block q hq (by simp)
  have hk : Keeps w w' ok ok [] := ⟨fun b hb => ⟨hb, hsame b (hr.okLt b hb)⟩, by simp, fun b m hb => hb.keep (hsame b hb.lt)⟩
  unfold Oper.wp
  rw [append_oper q1, Oper.upon_value]
  rcases q2.2 with ⟨_, h0⟩ | ⟨gb, cap, cur, rfl, hgb, hgh, hnc, hcm, hcs, htk⟩
  · omega
  · have hglt : gb < w'.heap.size := (Array.getElem?_eq_some_iff.1 hgh).1
    refine hK _ w' ok [gb] ⟨fun _ h => h, fun b hb => ⟨.inl hb, by have := hr.okLt b hb; have := q3.size; omega⟩, fun q hq _ => hsame q hq, q3.size, q3.os, q3.tape, q3.output, fun b m hb => hb.keep (hsame b hb.lt)⟩ ⟨[_], ?_, rfl⟩ (by simp) (fun b hb => ?_)
    · simp only [Rep]
      refine .inr ⟨gb, cap, c1 ++ news, [], [], [], by simp, by simpa using hnc, by simpa using (RepL.keep n xs c1 [] hk h5).append (RepL.keep n ys news [] hk s1), by simp [RepL], ⟨cur, e, hgh, ?_, by rw [hcs]; exact Nat.le_refl _⟩, by simp⟩
      rw [List.append_nil, ← htk]; exact List.take_prefix _ _
    · simp at hb
      subst hb
      exact ⟨.inr hgb, fun hh => by have := hr.okLt _ hh; omega, hglt⟩
end Go.Ax
namespace Go.Ax
abbrev Hp := List (Option Nat × Row)
theorem HpRep.pull {w : World} {ok : Nat → Prop} : ∀ {hp : Hp} {F : List Nat} {j : Nat} {x : Option Nat × Row}, HpRep w ok hp F → hp[j]? = some x → ∃ F', F.Perm F' ∧ HpRep w ok (x :: hp.eraseIdx j) F'
  | [], F, j, x, h, hj => by simp at hj
  | (B, r) :: hp, F, 0, x, h, hj => by
    simp at hj; subst hj
    exact ⟨F, List.Perm.refl _, by simpa using h⟩
  | (B, r) :: hp, F, j + 1, (B', r'), h, hj => by
    simp only [List.getElem?_cons_succ] at hj
    obtain ⟨F1, F2, rfl, h1, h2⟩ := h
    obtain ⟨F', q1, G1, G2, rfl, q2, q3⟩ := HpRep.pull h2 hj
    refine ⟨G1 ++ (F1 ++ G2), ?_, G1, F1 ++ G2, rfl, q2, by simpa using ⟨F1, G2, rfl, h1, q3⟩⟩
    refine (List.Perm.append_left F1 q1).trans ?_
    rw [← List.append_assoc, ← List.append_assoc]
    exact List.Perm.append_right G2 List.perm_append_comm
theorem HpRep.split {w : World} {ok : Nat → Prop} : ∀ {h1 h2 : Hp} {F : List Nat}, HpRep w ok (h1 ++ h2) F → ∃ F1 F2, F = F1 ++ F2 ∧ HpRep w ok h1 F1 ∧ HpRep w ok h2 F2
  | [], h2, F, h => ⟨[], F, rfl, rfl, h⟩
  | (B, r) :: h1, h2, F, h => by
    obtain ⟨F1, F2, rfl, g1, g2⟩ := h
    obtain ⟨G1, G2, rfl, q1, q2⟩ := HpRep.split g2
    exact ⟨F1 ++ G1, G2, by simp, ⟨F1, G1, rfl, g1, q1⟩, q2⟩
theorem RelX.perm {C : Ctx} {s : St} {a : Act} {w : World} {ok : Nat → Prop} {F F' : List Nat} {hp' : Hp} (h : RelX C s a w ok F) (hs : F.Perm F') (hp : HpRep w ok hp' F') : RelX C ⟨s.tm, hp'⟩ a w ok F' :=
  { h with hp := hp, nodup := hs.nodup_iff.1 h.nodup, own := fun b hb => h.own b (hs.mem_iff.2 hb) }
theorem Leads.pull {C : Ctx} {s : St} (j : Nat) {x : Option Nat × Row} (hj : s.hp[j]? = some x) : Leads C s ⟨s.tm, x :: s.hp.eraseIdx j⟩ := fun a w ⟨ok, F, hr⟩ => by
  obtain ⟨F', h1, h2⟩ := hr.hp.pull hj
  exact ⟨ok, F', hr.perm h1 h2⟩
def KeepR (hp hp' : Hp) : Prop := ∀ w ok F, HpRep w ok hp F → ∃ F' G, F.Perm (F' ++ G) ∧ HpRep w ok hp' F'
theorem KeepR.nil {hp : Hp} : KeepR hp [] := fun w ok F h => ⟨[], F, by simp, rfl⟩
theorem KeepR.all {hp : Hp} : KeepR hp hp := fun w ok F h => ⟨F, [], by simp, h⟩
theorem KeepR.cons {hp hp' : Hp} (j : Nat) {x : Option Nat × Row} (hj : hp[j]? = some x) (h : KeepR (hp.eraseIdx j) hp') : KeepR hp (x :: hp') := fun w ok F hr => by
  obtain ⟨F1, h1, h2⟩ := hr.pull hj
  obtain ⟨B, r⟩ := x
  obtain ⟨G1, G2, rfl, q1, q2⟩ := h2
  obtain ⟨F', G, q3, q4⟩ := h w ok G2 q2
  exact ⟨G1 ++ F', G, h1.trans (by rw [List.append_assoc]; exact List.Perm.append_left G1 q3), G1, F', rfl, q1, q4⟩
theorem Leads.keepR {C : Ctx} {s : St} {tm : List (Nat × AV)} {hp' : Hp} (hk : KeepR s.hp hp') (h : subT s.tm tm) : Leads C s ⟨tm, hp'⟩ := fun a w ⟨ok, F, hr⟩ => by
  obtain ⟨F', G, h1, h2⟩ := hk w ok F hr.hp
  have hn := (h1.nodup_iff.1 hr.nodup)
  exact ⟨ok, F', { hr with tm := fun t v ht => hr.tm t v (look_sub h t v ht), hp := h2, nodup := (List.nodup_append.1 hn).1, own := fun b hb => hr.own b (h1.mem_iff.2 (by simp [hb])) }⟩
theorem Leads.keepH {C : Ctx} {s : St} {hp' : Hp} (hk : KeepR s.hp hp') : Leads C s ⟨s.tm, hp'⟩ := fun a w ⟨ok, F, hr⟩ => by
  obtain ⟨F', G, h1, h2⟩ := hk w ok F hr.hp
  have hn := (h1.nodup_iff.1 hr.nodup)
  exact ⟨ok, F', { hr with hp := h2, nodup := (List.nodup_append.1 hn).1, own := fun b hb => hr.own b (h1.mem_iff.2 (by simp [hb])) }⟩
theorem RepL.hole {w : World} {ok : Nat → Prop} {n : Nat} : ∀ {xs : List AV} {c : List Value} {F : List Nat} {i : Nat} {old : AV}, RepL w ok n xs c F → xs[i]? = some old →
    ∃ Fe Fp Fq, F = Fp ++ (Fe ++ Fq) ∧ Rep w ok old ((c.drop (i * n)).take n) Fe ∧ ((c.drop (i * n)).take n).length = n ∧ ∀ v Fe', Rep w ok v ((c.drop (i * n)).take n) Fe' → RepL w ok n (xs.set i v) c (Fp ++ (Fe' ++ Fq))
  | [], c, F, i, old, h, hi => by simp at hi
  | a :: as, c, F, 0, old, h, hi => by
    simp at hi; subst hi
    simp only [RepL] at h
    obtain ⟨c1, c2, F1, F2, rfl, rfl, h1, h0, h2, h3⟩ := h
    have e : ((c1 ++ c2).drop (0 * n)).take n = c1 := by rw [Nat.zero_mul, List.drop_zero, ← h1, List.take_left]
    rw [e]
    refine ⟨F1, [], F2, rfl, h2, h1, fun v Fe' e1 => ?_⟩
    simp only [List.set_cons_zero, RepL, List.nil_append]
    exact ⟨c1, c2, Fe', F2, rfl, rfl, h1, h0, e1, h3⟩
  | a :: as, c, F, i + 1, old, h, hi => by
    simp only [List.getElem?_cons_succ] at hi
    simp only [RepL] at h
    obtain ⟨c1, c2, F1, F2, rfl, rfl, h1, h0, h2, h3⟩ := h
    obtain ⟨Fe, Fp, Fq, rfl, e1, e3, e2⟩ := RepL.hole h3 hi
    have e : ((c1 ++ c2).drop ((i + 1) * n)).take n = (c2.drop (i * n)).take n := by
      rw [show (i + 1) * n = c1.length + i * n by rw [Nat.succ_mul, h1]; omega, List.drop_length_add_append]
    rw [e]
    refine ⟨Fe, F1 ++ Fp, Fq, by simp, e1, e3, fun v Fe' g => ?_⟩
    simp only [List.set_cons_succ, RepL]
    exact ⟨c1, c2, F1, Fp ++ (Fe' ++ Fq), rfl, by simp, h1, h0, h2, e2 v Fe' g⟩
theorem Rep.aggHole {w : World} {ok : Nat → Prop} {cs : List AV} {es : List Value} {F : List Nat} (h : Rep w ok (.agg cs) es F) {f : Nat} {old : AV} (hf : cs[f]? = some old) :
    ∃ u Fe Fp Fq, F = Fp ++ (Fe ++ Fq) ∧ Rep w ok old [u] Fe ∧ ∀ v Fe', Rep w ok v [u] Fe' → Rep w ok (.agg (cs.set f v)) es (Fp ++ (Fe' ++ Fq)) := by
  simp only [Rep] at h ⊢
  obtain ⟨Fe, Fp, Fq, rfl, k1, k3, k2⟩ := h.hole hf
  generalize (es.drop (f * 1)).take 1 = d at k1 k3 k2
  obtain ⟨u, rfl⟩ : ∃ u, d = [u] := by
    match d, k3 with
    | [u], _ => exact ⟨u, rfl⟩
  exact ⟨u, Fe, Fp, Fq, rfl, k1, k2⟩
def SealTo (B : Option Nat) (row : Row) (e e' : AV) : Prop :=
  isAggV e' = isAggV e ∧ ∀ w ok cs Fe F, Rep w ok e cs Fe → RowRep w ok B row F → ∃ G, (Fe ++ F).Perm G ∧ Rep w ok e' cs G
theorem SealTo.loc {B : Option Nat} {len k m : Nat} {ys : List AV} (h1 : len ≤ ys.length) (h2 : ys.length ≤ k) : SealTo B ⟨m, ys⟩ (.loc B 0 len k m) (.own m (ys.take len) (ys.drop len)) := by
  refine ⟨rfl, fun w ok cs Fe F h hr => ?_⟩
  cases B with
  | none =>
    simp only [Rep] at h
    obtain ⟨rfl, _, rfl, rfl, rfl⟩ := h
    obtain ⟨hx, rfl⟩ := hr
    simp only at hx
    subst hx
    exact ⟨[], by simp, by simp [Rep]⟩
  | some b =>
    have hH := (Hand.own (b := b) (n := m) (ys := []) (zs := []) h1 h2).go w ok cs F
    have hFe : Fe = [] := by simp only [Rep] at h; exact h.1
    subst hFe
    exact ⟨F, by simp, hH h hr⟩
theorem SealTo.locV {B : Option Nat} {len k m : Nat} {ys : List AV} (h1 : len = ys.length) (h2 : ys.length ≤ k) : SealTo B ⟨m, ys⟩ (.loc B 0 len k m) (.own m ys []) := by
  have := SealTo.loc (B := B) (m := m) (len := len) (Nat.le_of_eq h1) h2
  rwa [h1, List.take_length, List.drop_length, ← h1] at this
theorem SealTo.ptr {b i f n : Nat} {xs : List AV} : SealTo (some b) ⟨n, xs⟩ (.ptr (some b) i f n) (.optr n xs i f) := by
  refine ⟨rfl, fun w ok cs Fe F h hr => ?_⟩
  have hFe : Fe = [] := by simp only [Rep] at h; exact h.1
  subst hFe
  exact ⟨F, by simp, (Hand.optr (xs' := [])).go w ok cs F h hr⟩
theorem SealTo.agg {B : Option Nat} {row : Row} {cs : List AV} {v v' : AV} (f : Nat) (hf : cs[f]? = some v) (h : SealTo B row v v') : SealTo B row (.agg cs) (.agg (cs.set f v')) := by
  refine ⟨rfl, fun w ok es Fe F hr hrow => ?_⟩
  obtain ⟨u, Fe', Fp, Fq, rfl, k1, k2⟩ := hr.aggHole hf
  obtain ⟨G, q1, q2⟩ := h.2 w ok [u] Fe' F k1 hrow
  refine ⟨Fp ++ (G ++ Fq), ?_, k2 v' G q2⟩
  rw [List.append_assoc, List.append_assoc]
  refine List.Perm.append_left Fp ?_
  refine (List.Perm.append_left Fe' List.perm_append_comm).trans ?_
  rw [← List.append_assoc]
  exact List.Perm.append_right Fq q1
theorem Leads.seal {C : Ctx} {tm : List (Nat × AV)} {B B0 : Option Nat} {row : Row} {hp : Hp} (j i : Nat) {n : Nat} {xs : List AV} {e e' : AV} (hj : hp[j]? = some (B0, ⟨n, xs⟩)) (hi : xs[i]? = some e) (hs : SealTo B row e e') :
    Leads C ⟨tm, (B, row) :: hp⟩ ⟨tm, hp.set j (B0, ⟨n, xs.set i e'⟩)⟩ := fun a w ⟨ok, F, hr⟩ => by
  obtain ⟨F1, F2, rfl, h1, h2⟩ := hr.hp
  obtain ⟨Fp, Fr, Fq, rfl, hrow, hset⟩ := h2.at hj
  cases B0 with
  | none =>
    obtain ⟨hx, _⟩ := hrow
    simp only at hx
    subst hx
    simp at hi
  | some b =>
    obtain ⟨cells, F', r1, r2, rfl⟩ := hrow
    obtain ⟨Fe, Gp, Gq, rfl, k1, k3, k2⟩ := r1.hole hi
    obtain ⟨G, q1, q2⟩ := hs.2 w ok _ Fe F1 k1 h1
    have hnew := hset w ok (some b) ⟨n, xs.set i e'⟩ (b :: (Gp ++ (G ++ Gq))) (Keeps.more (fun _ h => h) _) ⟨cells, Gp ++ (G ++ Gq), k2 e' G q2, r2, rfl⟩
    refine ⟨ok, _, hr.perm ?_ hnew⟩
    refine List.perm_append_comm.trans ?_
    rw [List.append_assoc]
    refine List.Perm.append_left Fp ?_
    rw [List.append_assoc]
    simp only [List.cons_append]
    refine List.Perm.cons b ?_
    have e1 : Gp ++ (Fe ++ Gq) ++ (Fq ++ F1) = Gp ++ (Fe ++ (Gq ++ Fq ++ F1)) := by simp
    have e2 : Gp ++ (G ++ Gq) ++ Fq = Gp ++ (G ++ (Gq ++ Fq)) := by simp
    rw [e1, e2]
    refine List.Perm.append_left Gp ?_
    refine (List.Perm.append_left Fe List.perm_append_comm).trans ?_
    rw [← List.append_assoc]
    exact List.Perm.append_right _ q1
def OpenTo {α : Type} (blk : α → Option Nat) (row : Row) (e : AV) (e' : α → AV) : Prop :=
  ∀ w ok cs Fe, Rep w ok e cs Fe → ∃ x F1 F2, Fe.Perm (F1 ++ F2) ∧ Rep w ok (e' x) cs F1 ∧ RowRep w ok (blk x) row F2
theorem OpenTo.own {m : Nat} {ys zs : List AV} : OpenTo (fun B : Option Nat => B) ⟨m, ys ++ zs⟩ (.own m ys zs) (fun B => .loc B 0 ys.length (ys.length + zs.length) m) := fun w ok cs Fe h => by
  obtain ⟨a', rows, o1, o2, o3, o4⟩ := opn_rep _ _ _ h
  cases o1 with
  | plain _ hp => simp [plainV] at hp
  | own _ _ _ B =>
    obtain ⟨F1, F2, rfl, q1, q2⟩ := o4
    simp only [HpRep] at q2
    subst q2
    exact ⟨B, [], F1, by simp, o3, q1⟩
theorem OpenTo.ownV {m : Nat} {ys : List AV} : OpenTo (fun B : Option Nat => B) ⟨m, ys⟩ (.own m ys []) (fun B => .loc B 0 ys.length ys.length m) := by
  have := OpenTo.own (m := m) (ys := ys) (zs := [])
  simpa using this
theorem OpenTo.optr {n i f : Nat} {xs : List AV} : OpenTo (fun b : Nat => some b) ⟨n, xs⟩ (.optr n xs i f) (fun b => .ptr (some b) i f n) := fun w ok cs Fe h => by
  obtain ⟨a', rows, o1, o2, o3, o4⟩ := opn_rep _ _ _ h
  cases o1 with
  | plain _ hp => simp [plainV] at hp
  | optr _ _ _ _ b =>
    obtain ⟨F1, F2, rfl, q1, q2⟩ := o4
    simp only [HpRep] at q2
    subst q2
    exact ⟨b, [], F1, by simp, o3, q1⟩
theorem OpenTo.agg {α : Type} {blk : α → Option Nat} {row : Row} {cs : List AV} {v : AV} {v' : α → AV} (f : Nat) (hf : cs[f]? = some v) (h : OpenTo blk row v v') : OpenTo blk row (.agg cs) (fun x => .agg (cs.set f (v' x))) := fun w ok es Fe hr => by
  obtain ⟨u, Fe', Fp, Fq, rfl, k1, k2⟩ := hr.aggHole hf
  obtain ⟨x, F1, F2, q1, q2, q3⟩ := h w ok [u] Fe' k1
  refine ⟨x, Fp ++ (F1 ++ Fq), F2, ?_, k2 _ F1 q2, q3⟩
  rw [List.append_assoc]
  refine List.Perm.append_left Fp ?_
  rw [List.append_assoc]
  refine (List.Perm.append_right Fq q1).trans ?_
  rw [List.append_assoc]
  exact List.Perm.append_left F1 List.perm_append_comm
theorem RelX.unseal {C : Ctx} {s : St} {a : Act} {w : World} {α : Type} {blk : α → Option Nat} {B0 : Option Nat} {row : Row} (j i : Nat) {n : Nat} {xs : List AV} {e : AV} {e' : α → AV} (hj : s.hp[j]? = some (B0, ⟨n, xs⟩)) (hi : xs[i]? = some e) (hs : OpenTo blk row e e')
    (h : Rel C s a w) : ∃ x, Rel C ⟨s.tm, (blk x, row) :: s.hp.set j (B0, ⟨n, xs.set i (e' x)⟩)⟩ a w := by
  obtain ⟨ok, F, hr⟩ := h
  obtain ⟨Fp, Fr, Fq, e0, hrow, hset⟩ := hr.hp.at hj
  subst e0
  cases B0 with
  | none =>
    obtain ⟨hx, _⟩ := hrow
    simp only at hx
    subst hx
    simp at hi
  | some b =>
    obtain ⟨cells, F', r1, r2, rfl⟩ := hrow
    obtain ⟨Fe, Gp, Gq, rfl, k1, k3, k2⟩ := r1.hole hi
    obtain ⟨x, F1, F2, q1, q2, q3⟩ := hs w ok _ Fe k1
    have hnew := hset w ok (some b) ⟨n, xs.set i (e' x)⟩ (b :: (Gp ++ (F1 ++ Gq))) (Keeps.more (fun _ h => h) _) ⟨cells, Gp ++ (F1 ++ Gq), k2 _ F1 q2, r2, rfl⟩
    refine ⟨x, ok, F2 ++ (Fp ++ ((b :: (Gp ++ (F1 ++ Gq))) ++ Fq)), hr.perm ?_ ⟨F2, _, rfl, q3, hnew⟩⟩
    refine List.Perm.trans ?_ List.perm_append_comm
    rw [List.append_assoc]
    refine List.Perm.append_left Fp ?_
    simp only [List.cons_append, List.append_assoc]
    refine List.Perm.cons b ?_
    refine List.Perm.append_left Gp ?_
    refine (List.Perm.append_right _ q1).trans ?_
    rw [List.append_assoc]
    refine List.Perm.append_left F1 ?_
    refine List.perm_append_comm.trans ?_
    rw [List.append_assoc]
theorem AWP.unseal {P : Program} {C : Ctx} {c : Code} {Q : Exit → St → Prop} {s : St} {α : Type} {blk : α → Option Nat} {B0 : Option Nat} {row : Row} (j i : Nat) {n : Nat} {xs : List AV} {e : AV} {e' : α → AV} (hj : s.hp[j]? = some (B0, ⟨n, xs⟩)) (hi : xs[i]? = some e) (hs : OpenTo blk row e e')
    (h : ∀ x, AWP P C c Q ⟨s.tm, (blk x, row) :: s.hp.set j (B0, ⟨n, xs.set i (e' x)⟩)⟩) : AWP P C c Q s := fun R a w hR hr => by
  obtain ⟨x, hr'⟩ := RelX.unseal j i hj hi hs hr
  exact h x R a w hR hr'
theorem AOps.unseal {P : Program} {C : Ctx} {ops : Array Oper} {l : List Oper} {K : St → Prop} {s : St} {α : Type} {blk : α → Option Nat} {B0 : Option Nat} {row : Row} (j i : Nat) {n : Nat} {xs : List AV} {e : AV} {e' : α → AV} (hj : s.hp[j]? = some (B0, ⟨n, xs⟩)) (hi : xs[i]? = some e) (hs : OpenTo blk row e e')
    (h : ∀ x, AOps P C ops l K ⟨s.tm, (blk x, row) :: s.hp.set j (B0, ⟨n, xs.set i (e' x)⟩)⟩) : AOps P C ops l K s := fun Q a w hQ hr => by
  obtain ⟨x, hr'⟩ := RelX.unseal j i hj hi hs hr
  exact h x Q a w hQ hr'
theorem AWP.someRow {P : Program} {C : Ctx} {c : Code} {Q : Exit → St → Prop} {s : St} (j : Nat) {B : Option Nat} {row : Row} (hj : s.hp[j]? = some (B, row)) (hne : row.xs ≠ []) (h : ∀ b, B = some b → AWP P C c Q s) : AWP P C c Q s := fun R a w hR hr => by
  obtain ⟨ok, F, hx⟩ := hr
  obtain ⟨Fp, Fr, Fq, e0, hrow, hset⟩ := hx.hp.at hj
  cases B with
  | none => exact absurd hrow.1 hne
  | some b => exact h b rfl R a w hR ⟨ok, F, hx⟩
def BorH (hp1 hp hp' : Hp) : Prop := ∀ w ok F1 F, HpRep w ok hp1 F1 → HpRep w ok hp F → HpRep w (fun b => ok b ∨ b ∈ F1) hp' F
theorem BorH.refl {hp1 hp : Hp} : BorH hp1 hp hp := fun w ok F1 F h1 h => h.keep (Keeps.more (fun b hb => .inl hb) F)
def Fz (hp1 : Hp) (v v' : AV) : Prop := isAggV v' = isAggV v ∧ ∀ w ok F cs, HpRep w ok hp1 F → Rep w ok v cs [] → Rep w (fun b => ok b ∨ b ∈ F) v' cs []
theorem Fz.refl {hp1 : Hp} {v : AV} : Fz hp1 v v := ⟨rfl, fun w ok F cs h hr => Rep.keep v cs [] (Keeps.more (fun b hb => .inl hb) []) hr⟩
theorem Bor.fz {hp1 : Hp} {v v' : AV} (h : Bor hp1 v v') : Fz hp1 v v' := ⟨h.1, fun w ok F cs h1 hr => h.2 w ok F cs [] h1 (by simp) hr⟩
theorem Fz.wk {hp1 : Hp} {v v' v'' : AV} (h : Fz hp1 v v') (h' : Wk v' v'') : Fz hp1 v v'' := ⟨h'.1.trans h.1, fun w ok F cs h1 hr => h'.2 w _ cs [] (h.2 w ok F cs h1 hr)⟩
def FzL (hp1 : Hp) : List AV → List AV → Prop
  | [], [] => True
  | a :: as, p :: ps => Fz hp1 a p ∧ FzL hp1 as ps
  | _, _ => False
theorem fzL_len {hp1 : Hp} : ∀ {as ps : List AV}, FzL hp1 as ps → ps.length = as.length
  | [], [], _ => rfl
  | a :: as, p :: ps, h => by simp [fzL_len h.2]
  | [], _ :: _, h => h.elim
  | _ :: _, [], h => h.elim
theorem FzL.refl {hp1 : Hp} : ∀ {as : List AV}, FzL hp1 as as
  | [] => trivial
  | a :: as => ⟨Fz.refl, FzL.refl⟩
theorem fzL_repL {hp1 : Hp} {w : World} {ok : Nat → Prop} {F : List Nat} {n : Nat} (h1 : HpRep w ok hp1 F) : ∀ {as ps : List AV} {cs : List Value}, FzL hp1 as ps → RepL w ok n as cs [] → RepL w (fun b => ok b ∨ b ∈ F) n ps cs []
  | [], [], cs, _, h => by simp only [RepL] at h ⊢; exact h
  | a :: as, p :: ps, cs, hv, h => by
    simp only [RepL] at h ⊢
    obtain ⟨c1, c2, G1, G2, rfl, hG, g1, g0, g2, g3⟩ := h
    obtain ⟨rfl, rfl⟩ := List.append_eq_nil_iff.1 hG.symm
    exact ⟨c1, c2, [], [], rfl, rfl, g1, g0, hv.1.2 w ok F c1 h1 g2, fzL_repL h1 hv.2 g3⟩
  | [], _ :: _, _, h, _ => h.elim
  | _ :: _, [], _, h, _ => h.elim
theorem Fz.agg {hp1 : Hp} {as ps : List AV} (h : FzL hp1 as ps) : Fz hp1 (.agg as) (.agg ps) := ⟨rfl, fun w ok F cs h1 hr => by simp only [Rep] at hr ⊢; exact fzL_repL h1 h hr⟩
def borT (hp1 : Hp) (tm : List (Nat × AV)) : List (Nat × AV) → Prop
  | [] => True
  | (t, v') :: r => (∃ v, look tm t = some v ∧ Fz hp1 v v') ∧ borT hp1 tm r
theorem borT_look {hp1 : Hp} {tm : List (Nat × AV)} : ∀ {r : List (Nat × AV)}, borT hp1 tm r → ∀ t v', look r t = some v' → ∃ v, look tm t = some v ∧ Fz hp1 v v'
  | [], _, t, v, h => by simp [look] at h
  | (k, u) :: r, h, t, v, hl => by
    rw [look_cons] at hl
    by_cases e : k = t
    · subst e; simp only [if_true, Option.some.injEq] at hl; subst hl; exact h.1
    · rw [if_neg e] at hl; exact borT_look h.2 t v hl
theorem RelX.freeze {C : Ctx} {tm tm' : List (Nat × AV)} {hp1 hp hp' : Hp} {a : Act} {w : World} {ok : Nat → Prop} {F1 F2 : List Nat} (hfz : C.fz ∨ C.own0 = []) (ht : ∀ t v', look tm' t = some v' → ∃ v, look tm t = some v ∧ Fz hp1 v v') (hh : BorH hp1 hp hp') (h1 : HpRep w ok hp1 F1) (h2 : HpRep w ok hp F2)
    (hr : RelX C ⟨tm, hp1 ++ hp⟩ a w ok (F1 ++ F2)) : RelX C ⟨tm', hp'⟩ a w (fun b => ok b ∨ b ∈ F1) F2 := by
  have hn := List.nodup_append.1 hr.nodup
  refine { hr with tm := fun t v' hv => ?_, hp := hh w ok F1 F2 h1 h2, nodup := hn.2.1, own := fun b hb => ?_, okOf := fun b hb => ?_, ok0 := fun b hb => .inl (hr.ok0 b hb) }
  · obtain ⟨v, g1, g2⟩ := ht t v' hv
    obtain ⟨cs, g3, g4⟩ := hr.tm t v g1
    exact ⟨cs, g2.2 w ok F1 cs h1 g3, by rw [g4, wrap_isAgg g2.1]⟩
  · obtain ⟨g1, g2, g3⟩ := hr.own b (by simp [hb])
    exact ⟨g1, fun h => by rcases h with h | h; exact g2 h; exact hn.2.2 b h b hb rfl, g3⟩
  · rcases hb with hb | hb
    · exact hr.okOf b hb
    · obtain ⟨g1, g2, g3⟩ := hr.own b (by simp [hb])
      refine ⟨g3, .inr ?_⟩
      rcases g1 with g | g
      · rcases hfz with q | q
        · exact .inl ⟨q, g⟩
        · rw [q] at g; cases g
      · exact .inr g
theorem Leads.freeze {C : Ctx} {tm tm' : List (Nat × AV)} (hp1 : Hp) {hp hp' : Hp} (hfz : C.fz ∨ C.own0 = []) (ht : borT hp1 tm tm') (hh : BorH hp1 hp hp') : Leads C ⟨tm, hp1 ++ hp⟩ ⟨tm', hp'⟩ := fun a w ⟨ok, F, hr⟩ => by
  obtain ⟨F1, F2, rfl, h1, h2⟩ := hr.hp.split
  exact ⟨_, F2, hr.freeze hfz (borT_look ht) hh h1 h2⟩
theorem Leads.freezeT {C : Ctx} {tm : List (Nat × AV)} {hp : Hp} (k t : Nat) {v v' : AV} (hfz : C.fz ∨ C.own0 = []) (hl : look tm t = some v) (hb : Fz (hp.take k) v v') : Leads C ⟨tm, hp⟩ ⟨(t, v') :: tm, hp.drop k⟩ := fun a w ⟨ok, F, hr⟩ => by
  have hr' : RelX C ⟨tm, hp.take k ++ hp.drop k⟩ a w ok F := by rw [List.take_append_drop]; exact hr
  obtain ⟨F1, F2, rfl, h1, h2⟩ := hr'.hp.split
  refine ⟨_, F2, hr'.freeze (tm' := (t, v') :: tm) (hp' := hp.drop k) hfz (fun u x hx => ?_) BorH.refl h1 h2⟩
  rw [look_cons] at hx
  by_cases e : t = u
  · subst e
    simp only [if_true, Option.some.injEq] at hx
    subst hx
    exact ⟨v, hl, hb⟩
  · rw [if_neg e] at hx; exact ⟨x, hx, Fz.refl⟩
theorem BorH.set {hp1 hp : Hp} (j i : Nat) {B : Option Nat} {n : Nat} {xs : List AV} {e e' : AV} (hj : hp[j]? = some (B, ⟨n, xs⟩)) (hi : xs[i]? = some e) (hpl : plainV e = true) (hf : Fz hp1 e e') : BorH hp1 hp (hp.set j (B, ⟨n, xs.set i e'⟩)) := fun w ok F1 F h1 h => by
  obtain ⟨Fp, Fr, Fq, rfl, hrow, hset⟩ := h.at hj
  cases B with
  | none =>
    obtain ⟨hx, _⟩ := hrow
    simp only at hx
    subst hx
    simp at hi
  | some b =>
    obtain ⟨cells, F', r1, r2, rfl⟩ := hrow
    obtain ⟨Fe, Gp, Gq, rfl, k1, k3, k2⟩ := r1.hole hi
    have := plain_foot _ _ _ k1 hpl
    subst this
    have hmore : ∀ G, Keeps w w ok (fun b => ok b ∨ b ∈ F1) G := fun G => Keeps.more (fun b hb => .inl hb) G
    have r3 := RepL.keep n _ cells _ (hmore _) (k2 .undef [] rfl)
    obtain ⟨Fe', Gp', Gq', e1, p1, p3, p2⟩ := r3.hole (i := i) (old := .undef) (by rw [List.getElem?_set_self (List.getElem?_eq_some_iff.1 hi).1])
    have hFe' : Fe' = [] := by simpa [Rep] using p1
    subst hFe'
    have r4 := p2 e' [] (hf.2 w ok F1 _ h1 k1)
    rw [List.set_set, ← e1] at r4
    exact hset w _ (some b) ⟨n, xs.set i e'⟩ (b :: (Gp ++ ([] ++ Gq))) (hmore _) ⟨cells, _, r4, r2, rfl⟩
end Go.Ax
namespace Go.Ax
def AHC (P : Program) (g : GL) (f : FuncId) (hp : Hp) (ps : List AV) (post : AV → Hp → Prop) : Prop :=
  ∀ (w : World) (vs : List Value) (F : List Nat) (ok : Nat → Prop), HpRep w ok hp F → RepT w ok ps vs [] → F.Nodup → (∀ b ∈ F, ¬ ok b ∧ b < w.heap.size) → (∀ b, ok b → b < w.heap.size) → g.holds w → (∀ b, b < g.low → ok b) →
    Calls P f vs.toArray w fun e w' => ∃ r hp' v F' ok', post r hp' ∧ e = .returned v ∧ RepV w' ok' r v [] ∧ HpRep w' ok' hp' F' ∧ F'.Nodup ∧
      (∀ b ∈ F', (b ∈ F ∨ w.heap.size ≤ b) ∧ ¬ ok' b ∧ b < w'.heap.size) ∧ (∀ b, ok b → ok' b) ∧ (∀ b, ok' b → (ok b ∨ b ∈ F ∨ w.heap.size ≤ b) ∧ b < w'.heap.size) ∧
      (∀ k, k < w.heap.size → k ∉ F → w'.heap[k]? = w.heap[k]?) ∧ w.heap.size ≤ w'.heap.size ∧ w'.os = w.os ∧ w'.tape = w.tape ∧ w'.output = w.output ∧ (∀ b m, BlkAt w b [] m → BlkAt w' b [] m)
structure AH (P : Program) (g : GL) (f : FuncId) (hp : Hp) (ps : List AV) (post : AV → Hp → Prop) : Prop where
  ent : Ent P f
  calls : AHC P g f hp ps post
theorem AH.mono {P : Program} {g : GL} {f : FuncId} {hp : Hp} {ps : List AV} {post post' : AV → Hp → Prop} (h : AH P g f hp ps post) (hm : ∀ r hp', post r hp' → post' r hp') : AH P g f hp ps post' :=
  ⟨h.ent, fun w vs F ok h1 h2 h3 h4 h5 h6 h7 => (h.calls w vs F ok h1 h2 h3 h4 h5 h6 h7).mono fun e w' ⟨r, hp', v, F', ok', q, rest⟩ => ⟨r, hp', v, F', ok', hm _ _ q, rest⟩⟩
theorem AF.toH {P : Program} {g : GL} {f : FuncId} {ps outs : List AV} {r : AV} (h : AF P g f ps r outs) : AH P g f [] ps (fun r' hp' => Opn r r' hp') := by
  refine ⟨h.ent, fun w vs F ok h1 h2 h3 h4 h5 h6 h7 => ?_⟩
  simp only [HpRep] at h1
  subst h1
  refine (h.calls w vs [] ok h2 List.nodup_nil (by simp) h5 h6 h7).mono ?_
  rintro e w' ⟨v, Fr, Fo, ok', rfl, ⟨cs, g1, g2⟩, g3, g4, g5, g6, g7, g8, g9, g10, g11, g12, g13⟩
  obtain ⟨r', rows, o1, o2, o3, o4⟩ := opn_rep r cs Fr g1
  refine ⟨r', rows, v, Fr, ok', o1, rfl, ⟨cs, o3, by rw [g2, wrap_isAgg o2]⟩, o4, (List.nodup_append.1 g4).1, fun b hb => g5 b (by simp [hb]), g6, fun b hb => ?_, g8, g9, g10, g11, g12, g13⟩
  obtain ⟨q1, q2⟩ := g7 b hb
  exact ⟨q1.imp id .inr, q2⟩
theorem AH.toF {P : Program} {g : GL} {f : FuncId} {ps : List AV} {post : AV → Hp → Prop} {r' : AV} (hpl : plainL ps = true) (h : AH P g f [] ps post) (hv : ∀ r hp', post r hp' → Fz hp' r r') : AF P g f ps r' (noOuts ps) := by
  refine ⟨h.ent, fun w vs F ok h1 h3 h4 h5 h6 h7 => ?_⟩
  have hF0 := plainT_foot ps vs F h1 hpl
  subst hF0
  refine (h.calls w vs [] ok rfl h1 List.nodup_nil (by simp) h5 h6 h7).mono ?_
  rintro e w' ⟨r, hp', v, F', ok', q, rfl, ⟨cs, g1, g1'⟩, g2, g3, g4, g5, g6, g7, g8, g9, g10, g11, g12⟩
  have hz := hv r hp' q
  refine ⟨v, [], [], fun b => ok' b ∨ b ∈ F', rfl, ⟨cs, hz.2 w' ok' F' cs g2 g1, by rw [g1', wrap_isAgg hz.1]⟩, repT_undef ps vs (repT_length h1), by simp, by simp, fun b hb => .inl (g5 b hb), fun b hb => ?_, g7, g8, g9, g10, g11, g12⟩
  rcases hb with hb | hb
  · obtain ⟨q1, q2⟩ := g6 b hb
    exact ⟨by simpa using q1, q2⟩
  · obtain ⟨q1, q2, q3⟩ := g4 b hb
    exact ⟨.inr (by simpa using q1), q3⟩
def RetH (P : Program) (fn : Func) (s : St) (post : AV → Hp → Prop) : Prop :=
  ∀ C a w ok F, RelX C s a w ok F → ∃ r hp' v F' , post r hp' ∧ (results fn a.tmps).run P w = .ok v w ∧ RepV w ok r v [] ∧ HpRep w ok hp' F' ∧ F'.Nodup ∧ (∀ b ∈ F', b ∈ F)
theorem AH.intro {P : Program} {g : GL} {f : FuncId} {fn : Func} {c : Code} {hp : Hp} {ps : List AV} {post : AV → Hp → Prop} {nt : Nat} (hf : P.funcs[f]? = some fn) (hname : (fn.name == "runtime.NumGoroutine") = false) (hb : fn.body = some c) (hn : fn.ntmps = nt)
    (hl : Nat.ble ps.length nt = true) (h : ∀ w0 ok0 own0, AWP P ⟨g, nt, w0, ok0, own0, True⟩ c (fun e s' => (e = .ret ∨ e = .normal) ∧ RetH P fn s' post) ⟨enumF 0 ps, hp⟩) : AH P g f hp ps post := by
  refine ⟨⟨fn, hf, by rw [hb]; rfl, hname⟩, ?_⟩
  intro w vs F ok hh hv hF hFo hok hgl hlow
  have hlen := repT_length hv
  have hle : ps.length ≤ nt := by simpa using hl
  refine calls_of_wp hf hb (h w ok F _ _ w ?_ ?_)
  · intro e s' ac w' ⟨ok1, F1, hr⟩ ⟨he, hq⟩
    obtain ⟨r, hp', v, F', q1, q2, q3, q4, q5, q6⟩ := hq _ ac w' ok1 F1 hr
    have main : ∃ r hp' v0 F' ok', post r hp' ∧ Ending.returned v = .returned v0 ∧ RepV w' ok' r v0 [] ∧ HpRep w' ok' hp' F' ∧ F'.Nodup ∧
        (∀ b ∈ F', (b ∈ F ∨ w.heap.size ≤ b) ∧ ¬ ok' b ∧ b < w'.heap.size) ∧ (∀ b, ok b → ok' b) ∧ (∀ b, ok' b → (ok b ∨ b ∈ F ∨ w.heap.size ≤ b) ∧ b < w'.heap.size) ∧
        (∀ k, k < w.heap.size → k ∉ F → w'.heap[k]? = w.heap[k]?) ∧ w.heap.size ≤ w'.heap.size ∧ w'.os = w.os ∧ w'.tape = w.tape ∧ w'.output = w.output ∧ (∀ b m, BlkAt w b [] m → BlkAt w' b [] m) := by
      refine ⟨r, hp', v, F', ok1, q1, rfl, q3, q4, q5, fun b hb => hr.own b (q6 b hb), fun b hb => hr.ok0 b hb, fun b hb => ?_, hr.frame, hr.grown, hr.os, hr.tape, hr.output, hr.room⟩
      obtain ⟨g1, g2⟩ := hr.okOf b hb
      exact ⟨by simpa using g2, g1⟩
    rcases he with rfl | rfl
    · exact ⟨hr.defers, v, q2, main⟩
    · exact ⟨hr.defers, v, q2, main⟩
  · refine ⟨ok, F, { size := ?_, defers := rfl, tm := ?_, hp := hh, nodup := hF, own := fun b hb => ⟨.inl hb, hFo b hb⟩, okOf := fun b hb => ⟨hok b hb, .inl hb⟩, ok0 := fun _ h => h, frame := fun _ _ _ => rfl, grown := Nat.le_refl _, room := fun _ _ h => h, os := rfl, tape := rfl, output := rfl, gl := hgl, low := hlow, sep := fun b hb => ⟨hok b hb, fun hh => (hFo b hh).1 hb⟩ }⟩
    · simp [hn, hlen]; omega
    · intro t v ht
      have := look_enum ps vs 0 [] (List.replicate (fn.ntmps - vs.length) undef) hv rfl t v ht
      simp only [List.nil_append] at this
      have e : (vs.toArray ++ Array.replicate (fn.ntmps - vs.toArray.size) undef).getD t undef = (vs ++ List.replicate (fn.ntmps - vs.length) undef).getD t undef := by
        simp [Array.getD_eq_getD_getElem?, List.getD_eq_getElem?_getD, ← Array.getElem?_toList]
      show RepV w ok v ((vs.toArray ++ Array.replicate (fn.ntmps - vs.toArray.size) undef).getD t undef) []
      rw [e]; exact this
def resOne (P : Program) (s : St) (rv : ResultVar) (v : AV) : Prop := match rv with
  | .tmp t => look s.tm t = some v
  | .cell t T => ∃ (b n j : Nat) (g : Bool), look s.tm t = some (.ptr (some b) 0 0 n) ∧ s.hp[j]? = some (some b, ⟨n, [v]⟩) ∧ kindT P T = some (g, n) ∧ isAggV v = g ∧ plainV v = true ∧ cellV v = true
theorem resOne.cell {P : Program} {s : St} {t T b n j : Nat} {g : Bool} {v : AV} (hl : look s.tm t = some (.ptr (some b) 0 0 n)) (hj : s.hp[j]? = some (some b, ⟨n, [v]⟩)) (hk : kindT P T = some (g, n)) (hg : isAggV v = g) (hp : plainV v = true) (hcv : cellV v = true) : resOne P s (.cell t T) v := ⟨b, n, j, g, hl, hj, hk, hg, hp, hcv⟩
def resRun (tmps : Array Value) : ResultVar → Sem Value
  | .tmp t => pure (tmps.getD t undef)
  | .cell a t => do loadVar t (← asAddr (tmps.getD a undef))
theorem resOne_run {P : Program} {s : St} {rv : ResultVar} {v : AV} (h : resOne P s rv v) {C : Ctx} {a : Act} {w : World} {ok : Nat → Prop} {F : List Nat} (hr : RelX C s a w ok F) : ∃ u, (resRun a.tmps rv).run P w = .ok u w ∧ RepV w ok v u [] := by
  cases rv with
  | tmp t => exact ⟨a.tmps.getD t undef, rfl, hr.tm t v h⟩
  | cell t T =>
    obtain ⟨b, n, j, g, hl, hj, hk, hg, hp, hcv⟩ := h
    obtain ⟨cs, g1, g2⟩ := hr.tm t _ hl
    simp only [Rep] at g1
    obtain ⟨_, b', hb', rfl⟩ := g1
    simp only [Option.some.injEq] at hb'
    subst hb'
    obtain ⟨cells, F', r1, r2, _, _⟩ := hr.row hj
    simp only [RepL] at r1
    obtain ⟨c1, c2, F1, F2, rfl, rfl, q1, q2, q3, rfl, rfl⟩ := r1
    have hF1 := plain_foot _ _ _ q3 hp
    subst hF1
    have hcell : ∀ i (hi : i < c1.length), w.cell? ⟨b, 0 + i, none⟩ = some c1[i] := fun i hi => by
      rw [Nat.zero_add]
      exact r2.cell (by simp [hi])
    have ht : a.tmps.getD t undef = .pointer (some ⟨b, 0, none⟩) := by rw [g2]; simp [wrapV]
    refine ⟨wrapV v c1, ?_, ⟨c1, q3, rfl⟩⟩
    have ht' : a.tmps[t]?.getD undef = .pointer (some ⟨b, 0, none⟩) := by simpa [Array.getD_eq_getD_getElem?] using ht
    cases hv : isAggV v with
    | true =>
      rw [hv] at hg; subst hg
      have hw : wrapV v c1 = .agg c1.toArray := by cases v <;> simp [isAggV] at hv <;> rfl
      have := run_loadAgg (P := P) (w := w) (T := T) (b := b) (o := 0) (cs := c1) (by rw [q1]; exact hk) hcell
      rw [hw]
      simp only [resRun]
      simp [ht', asAddr, this]
    | false =>
      rw [hv] at hg; subst hg
      have hl1 : c1.length = n := q1
      cases c1 with
      | nil =>
        exfalso
        have hw := rep_width q3 (by rintro rfl; simp [cellV] at hcv)
        cases v <;> first | (simp [isAggV] at hv; done) | (simp [width] at hw; done) | (simp [cellV] at hcv; done)
      | cons x c1 =>
        have hx : w.cell? ⟨b, 0, none⟩ = some x := hcell 0 (by simp)
        have := run_loadOne (P := P) (w := w) (T := T) (b := b) (o := 0) hk hx
        have hw : wrapV v (x :: c1) = x := by cases v <;> simp [isAggV] at hv <;> rfl
        rw [hw]
        simp only [resRun]
        simp [ht', asAddr, this]
  end Go.Ax
  namespace Go.Ax
def resL (P : Program) (s : St) : List ResultVar → List AV → Prop
  | [], [] => True
  | r :: rs, v :: vs => resOne P s r v ∧ resL P s rs vs
  | _, _ => False
theorem resL_run {P : Program} {s : St} {C : Ctx} {a : Act} {w : World} {ok : Nat → Prop} {F : List Nat} (hr : RelX C s a w ok F) : ∀ {rs : List ResultVar} {vs : List AV}, resL P s rs vs → ∃ us, (rs.mapM (resRun a.tmps) : Sem (List Value)).run P w = .ok us w ∧ RepT w ok vs us []
  | [], [], _ => ⟨[], rfl, by simp [RepT]⟩
  | r :: rs, v :: vs, h => by
    obtain ⟨u, q1, cs, q2, q3⟩ := resOne_run h.1 hr
    obtain ⟨us, q4, q5⟩ := resL_run hr h.2
    refine ⟨u :: us, ?_, ?_⟩
    · simp only [List.mapM_cons, Sem.run_bind, q1, Result.andThen_ok, q4, Sem.run_pure]
    · simp only [RepT]
      exact ⟨u, us, cs, [], [], rfl, rfl, q2, q3, q5⟩
  | [], _ :: _, h => h.elim
  | _ :: _, [], h => h.elim
def mkRes : List AV → AV
  | [v] => v
  | vs => .tup vs
theorem RetH.of {P : Program} {fn : Func} {s : St} {rs : List ResultVar} {vs : List AV} {hp' : Hp} {post : AV → Hp → Prop} (h : fn.results = rs.toArray) (hl : resL P s rs vs) (hk : KeepR s.hp hp') (hp : post (mkRes vs) hp') : RetH P fn s post := by
  intro C a w ok F hr
  obtain ⟨us, q1, q2⟩ := resL_run hr hl
  obtain ⟨F', G, k1, k2⟩ := hk w ok F hr.hp
  have hn := List.nodup_append.1 (k1.nodup_iff.1 hr.nodup)
  have e0 : results fn a.tmps = (do let vs ← fn.results.mapM (resRun a.tmps); pure (if h : vs.size = 1 then vs[0] else .tuple vs) : Sem Value) := by
    unfold results
    congr 1
  have hrun : (results fn a.tmps).run P w = .ok (if h : us.toArray.size = 1 then us.toArray[0] else .tuple us.toArray) w := by
    rw [e0, h, Sem.run_bind, Array.mapM_eq_mapM_toList, Sem.run_map, q1]
    rfl
  refine ⟨_, hp', _, F', hp, hrun, ?_, k2, hn.1, fun b hb => k1.mem_iff.2 (by simp [hb])⟩
  match vs, us, q2 with
  | [], us, q2 =>
    simp only [RepT] at q2
    obtain ⟨rfl, _⟩ := q2
    exact ⟨[.tuple #[]], by simp only [mkRes, Rep]; exact ⟨[], rfl, by simp [RepT]⟩, rfl⟩
  | [v], us, q2 =>
    simp only [RepT] at q2
    obtain ⟨u, us', c1, F1, F2, rfl, hF, q3, q4, rfl, _⟩ := q2
    obtain ⟨rfl, _⟩ := List.append_eq_nil_iff.1 hF.symm
    exact ⟨c1, q3, by subst q4; rfl⟩
  | v :: v2 :: vs, us, q2 =>
    have hlen := repT_length q2
    have hne : ¬ us.toArray.size = 1 := by simp at hlen; simp; omega
    rw [dif_neg hne]
    exact ⟨[.tuple us.toArray], by simp only [mkRes, Rep]; exact ⟨us, rfl, q2⟩, rfl⟩
theorem RelX.swap {C : Ctx} {tm : List (Nat × AV)} {hp hp' rest : Hp} {ac : Act} {w w' : World} {ok ok' : Nat → Prop} {Fi Fr Fo : List Nat} (hfz : C.fz ∨ C.own0 = []) (hr : RelX C ⟨tm, hp ++ rest⟩ ac w ok (Fi ++ Fr)) (hrest : HpRep w ok rest Fr)
    (hrow' : HpRep w' ok' hp' Fo) (h4 : Fo.Nodup) (h5 : ∀ b ∈ Fo, (b ∈ Fi ∨ w.heap.size ≤ b) ∧ ¬ ok' b ∧ b < w'.heap.size) (h6 : ∀ b, ok b → ok' b) (h7 : ∀ b, ok' b → (ok b ∨ b ∈ Fi ∨ w.heap.size ≤ b) ∧ b < w'.heap.size)
    (h8 : ∀ k, k < w.heap.size → k ∉ Fi → w'.heap[k]? = w.heap[k]?) (h9 : w.heap.size ≤ w'.heap.size) (h10 : w'.os = w.os) (h11 : w'.tape = w.tape) (h12 : w'.output = w.output) (h13 : ∀ b m, BlkAt w b [] m → BlkAt w' b [] m) :
    RelX C ⟨tm, hp' ++ rest⟩ ac w' ok' (Fo ++ Fr) := by
  have hnd := List.nodup_append.1 hr.nodup
  have hdisj : ∀ b, b ∈ Fr → b ∉ Fi := fun b hb hbi => hnd.2.2 b hbi b hb rfl
  have hk : Keeps w w' ok ok' Fr := ⟨fun b hb => ⟨h6 b hb, h8 b (hr.okOf b hb).1 (fun hj => (hr.own b (by simp [hj])).2.1 hb)⟩, fun b hb => h8 b (hr.own b (by simp [hb])).2.2 (hdisj b hb), h13⟩
  have key : ∀ b ∈ Fo, b ∉ Fr := by
    intro b hb hh
    rcases (h5 b hb).1 with g | g
    · exact hdisj b hh g
    · have := (hr.own b (by simp [hh])).2.2; omega
  refine { size := hr.size, defers := hr.defers, tm := hr.tmKeep (hk.sub (by simp)), hp := HpRep.append hrow' (hrest.keep hk), nodup := List.nodup_append.2 ⟨h4, hnd.2.1, fun x hx y hy e => key x hx (e ▸ hy)⟩, own := ?_, okOf := ?_, ok0 := fun b hb => h6 b (hr.ok0 b hb), frame := ?_, grown := Nat.le_trans hr.grown h9, room := fun b m hb => h13 b m (hr.room b m hb), os := h10.trans hr.os, tape := h11.trans hr.tape, output := h12.trans hr.output, gl := hr.gl, low := hr.low, sep := hr.sep }
  · intro b hb
    rcases List.mem_append.1 hb with hb | hb
    · obtain ⟨g1, g2, g3⟩ := h5 b hb
      refine ⟨?_, g2, g3⟩
      rcases g1 with g | g
      · exact (hr.own b (by simp [g])).1
      · exact .inr (Nat.le_trans hr.grown g)
    · obtain ⟨g1, g2, g3⟩ := hr.own b (by simp [hb])
      refine ⟨g1, fun hh => ?_, by omega⟩
      rcases (h7 b hh).1 with g | g | g
      · exact g2 g
      · exact hdisj b hb g
      · omega
  · intro b hb
    obtain ⟨g1, g2⟩ := h7 b hb
    refine ⟨g2, ?_⟩
    rcases g1 with g | g | g
    · exact (hr.okOf b g).2
    · rcases (hr.own b (by simp [g])).1 with q | q
      · rcases hfz with z | z
        · exact .inr (.inl ⟨z, q⟩)
        · rw [z] at q; cases q
      · exact .inr (.inr q)
    · exact .inr (.inr (Nat.le_trans hr.grown g))
  · intro k hk1 hk2
    rw [h8 k (by have := hr.grown; omega) (fun hh => by
      rcases (hr.own k (by simp [hh])).1 with g | g
      · exact hk2 g
      · omega)]
    exact hr.frame k hk1 hk2
theorem AOps.callH {P : Program} {C : Ctx} {ops : Array Oper} {K : St → Prop} {s : St} {d : Nat} {f : FuncId} {l : List Operand} {tys : Array TypeId} {ty : TypeId} {pos : String} {after : Array Edge} {ops' : List Oper} {us ps : List AV} {hp rest : Hp} {post : AV → Hp → Prop}
    (hfz : C.fz ∨ C.own0 = []) (hF : AH P C.g f hp ps post) (hd : Nat.blt d C.nt = true) (hx : aevs s l = some us) (hs : s.hp = hp ++ rest) (hw : WkL us ps) (h : ∀ r hp', post r hp' → AOps P C ops ops' K ⟨(d, r) :: s.tm, hp' ++ rest⟩) :
    AOps P C ops (⟨some d, .call ⟨.value (.func f), l.toArray, tys⟩, ty, pos, after, none⟩ :: ops') K s := by
  obtain ⟨tm, hp0⟩ := s
  simp only at hs
  subst hs
  intro Q ac w hQ ⟨ok, F, hr⟩
  obtain ⟨Fi, Fr, rfl, h1, h2⟩ := hr.hp.split
  have hnd := List.nodup_append.1 hr.nodup
  refine wpList_call hF.ent ((hF.calls w _ Fi ok h1 (wkL_repT hw (hr.evs hx)) hnd.1 (fun b hb => (hr.own b (by simp [hb])).2) (fun b hb => (hr.okOf b hb).1) hr.glob (fun b hb => hr.ok0 b (hr.low b hb))).mono ?_)
  rintro e w' ⟨r, hp', v, F', ok', q, rfl, g1, g2, g3, g4, g5, g6, g7, g8, g9, g10, g11, g12⟩
  have hr2 := RelX.swap hfz hr h2 g2 g3 g4 g5 g6 g7 g8 g9 g10 g11 g12
  exact ⟨v, rfl, h r hp' q Q _ _ hQ ⟨ok', _, hr2.put (by simpa using hd) g1⟩⟩
theorem freeH_rep {w : World} {ok ok' : Nat → Prop} : ∀ {hp : Hp} {F : List Nat}, (∀ B row, (B, row) ∈ hp → FreeL row.xs) → HpRep w ok hp F → HpRep w ok' hp F
  | [], F, _, h => h
  | (B, r) :: hp, F, hf, h => by
    obtain ⟨F1, F2, rfl, h1, h2⟩ := h
    refine ⟨F1, F2, rfl, ?_, freeH_rep (fun B' row hm => hf B' row (List.mem_cons_of_mem _ hm)) h2⟩
    cases B with
    | none => exact h1
    | some b =>
      obtain ⟨cells, F', r1, r2, rfl⟩ := h1
      exact ⟨cells, F', freeL_rep (hf _ _ (List.mem_cons_self ..)) r1, r2, rfl⟩
theorem AOps.callHb {P : Program} {C : Ctx} {ops : Array Oper} {K : St → Prop} {s : St} {d : Nat} {f : FuncId} {l : List Operand} {tys : Array TypeId} {ty : TypeId} {pos : String} {after : Array Edge} {ops' : List Oper} {us ps : List AV} {hp rest : Hp} {post : AV → Hp → Prop}
    (hfz : C.fz ∨ C.own0 = []) (hF : AH P C.g f hp ps post) (hd : Nat.blt d C.nt = true) (hx : aevs s l = some us) (hs : s.hp = hp ++ rest) (hb : BorL rest us ps) (hfree : ∀ r hp', post r hp' → Free r ∧ ∀ B row, (B, row) ∈ hp' → FreeL row.xs) (h : ∀ r hp', post r hp' → AOps P C ops ops' K ⟨(d, r) :: s.tm, hp' ++ rest⟩) :
    AOps P C ops (⟨some d, .call ⟨.value (.func f), l.toArray, tys⟩, ty, pos, after, none⟩ :: ops') K s := by
  obtain ⟨tm, hp0⟩ := s
  simp only at hs
  subst hs
  intro Q ac w hQ ⟨ok, F, hr⟩
  obtain ⟨Fi, Fr, rfl, h1, h2⟩ := hr.hp.split
  have hnd := List.nodup_append.1 hr.nodup
  have hva := borL_rep h2 hb (hr.evs hx)
  have h1' : HpRep w (fun b => ok b ∨ b ∈ Fr) hp Fi := h1.keep (Keeps.more (fun _ h => .inl h) Fi)
  refine wpList_call hF.ent ((hF.calls w _ Fi _ h1' hva hnd.1 (fun b hb => ⟨fun hh => ?_, (hr.own b (by simp [hb])).2.2⟩) (fun b hb => ?_) hr.glob (fun b hb => .inl (hr.ok0 b (hr.low b hb)))).mono ?_)
  · rcases hh with hh | hh
    · exact (hr.own b (by simp [hb])).2.1 hh
    · exact hnd.2.2 b hb b hh rfl
  · rcases hb with hb | hb
    · exact (hr.okOf b hb).1
    · exact (hr.own b (by simp [hb])).2.2
  rintro e w' ⟨r, hp', v, F', ok', q, rfl, ⟨cs, g1, g1'⟩, g2, g3, g4, g5, g6, g7, g8, g9, g10, g11, g12⟩
  have hf := hfree r hp' q
  have g2' : HpRep w' ok hp' F' := freeH_rep hf.2 g2
  have hr2 := RelX.swap (ok' := ok) hfz hr h2 g2' g3 (fun b hb => ⟨(g4 b hb).1, fun hh => (g4 b hb).2.1 (g5 b (.inl hh)), (g4 b hb).2.2⟩) (fun _ h => h) (fun b hb => ⟨.inl hb, by have := (hr.okOf b hb).1; omega⟩) g7 g8 g9 g10 g11 g12
  exact ⟨v, rfl, h r hp' q Q _ _ hQ ⟨ok, _, hr2.put (by simpa using hd) ⟨cs, hf.1 _ _ _ _ _ g1, g1'⟩⟩⟩
theorem AWP.midE {P : Program} {C : Ctx} {Q : Exit → St → Prop} {s : St} {x y : Code} {α : Type} (S : α → St) (inv : α → Prop) (h1 : AWP P C x (Qseq (fun s' => ∃ a, inv a ∧ Leads C s' (S a)) Q) s) (h2 : ∀ a, inv a → AWP P C y Q (S a)) : AWP P C (.seq x y) Q s :=
  AWP.seq (AWP.mono (fun e s' hq => by cases e <;> first | exact hq | (obtain ⟨a, h, hl⟩ := hq; exact AWP.leads hl (h2 a h))) h1)
def ownP (n : Nat) (xs : List AV) : AV → Hp → Prop := fun r hp' => ∃ B : Option Nat, r = .loc B 0 xs.length xs.length n ∧ hp' = [(B, ⟨n, xs⟩)]
theorem ownP.fz {n : Nat} {xs ys : List AV} (hv : ViewL xs ys) {r : AV} {hp' : Hp} (h : ownP n xs r hp') : Fz hp' r (.ro n ys [] false) := by
  obtain ⟨B, rfl, rfl⟩ := h
  exact (Bor.loc (j := 0) rfl (Nat.le_refl _) (by rw [List.take_length]; exact hv)).fz
theorem Leads.rowEq {C : Ctx} {s : St} (j : Nat) {B : Option Nat} {n : Nat} {xs ys : List AV} (hj : s.hp[j]? = some (B, ⟨n, xs⟩)) (e : xs = ys) : Leads C s ⟨s.tm, s.hp.set j (B, ⟨n, ys⟩)⟩ := by
  subst e
  have : s.hp.set j (B, ⟨n, xs⟩) = s.hp := by
    refine List.ext_getElem? fun i => ?_
    by_cases h : j = i
    · subst h; rw [hj, List.getElem?_set_self (List.getElem?_eq_some_iff.1 hj).1]
    · rw [List.getElem?_set_ne h]
  rw [this]; exact Leads.refl
theorem AOps.appendE {P : Program} {C : Ctx} {ops : Array Oper} {K : St → Prop} {s : St} {d : Nat} {t e n bb len k j len' : Nat} {x y : Operand} {ty : TypeId} {pos : String} {after : Array Edge} {rest : List Oper} {B : Option Nat} {xs ys zs : List AV} {z : Value} {sv : AV}
    (ht : slElem P t = some (e, n, bb)) (hz : zeroT P e = some z) (hzs : z.cells.size = n) (hn : Nat.blt 0 n = true) (hd : Nat.blt d C.nt = true) (hx : aev s x = some (.loc B 0 len k n)) (hj : s.hp[j]? = some (B, ⟨n, xs⟩)) (hlen : xs.length = len) (hy : aev s y = some sv)
    (hsrc : ∀ a w ok F, RelX C s a w ok F → RepV w ok sv (a.eval y) [] → SrcAt w ok n ys (a.eval y)) (hl' : len + ys.length = len') (hzs' : xs ++ ys = zs) (hb1 : len' ≤ 9223372036854775807) (hb2 : len' * bb ≤ 140737488355328)
    (h : ∀ B', AOps P C ops rest K ⟨(d, .loc B' 0 len' len' n) :: s.tm, s.hp.set j (B', ⟨n, zs⟩)⟩) :
    AOps P C ops (⟨some d, .call ⟨.builtin .append, #[x, y], #[t, t]⟩, ty, pos, after, none⟩ :: rest) K s := by
  subst hl'; subst hzs'
  exact AOps.append ht hz hzs hn hd hx hj hlen hy hsrc hb1 hb2 h
theorem borL_repL {hp : Hp} {w : World} {ok : Nat → Prop} {F : List Nat} {n : Nat} (h1 : HpRep w ok hp F) : ∀ {us ps : List AV} {cs : List Value} {Fe : List Nat}, BorL hp us ps → (∀ x ∈ Fe, x ∈ F) → RepL w ok n us cs Fe → RepL w (fun b => ok b ∨ b ∈ F) n ps cs []
  | [], [], cs, Fe, _, _, h => by simp only [RepL] at h ⊢; exact ⟨h.1, trivial⟩
  | a :: us, p :: ps, cs, Fe, hv, hF, h => by
    simp only [RepL] at h ⊢
    obtain ⟨c1, c2, G1, G2, rfl, rfl, g1, g0, g2, g3⟩ := h
    exact ⟨c1, c2, [], [], rfl, rfl, g1, g0, hv.1.2 w ok F c1 G1 h1 (fun x hx => hF x (by simp [hx])) g2, borL_repL h1 hv.2 (fun x hx => hF x (by simp [hx])) g3⟩
  | [], _ :: _, _, _, h, _, _ => h.elim
  | _ :: _, [], _, _, h, _, _ => h.elim
theorem Bor.agg {hp : Hp} {us ps : List AV} (h : BorL hp us ps) : Bor hp (.agg us) (.agg ps) := ⟨rfl, fun w ok F cs Fe h1 hF hr => by simp only [Rep] at hr ⊢; exact borL_repL h1 h hF hr⟩
end Go.Ax
namespace Go.Ax
section
variable {P : Program} {C : Ctx} {s : St} {ty : TypeId}
theorem Yields.conv_int {x : Operand} {t u : TypeId} {k k' k'' : IntKind} {n : Int} (ht : P.underlying t = some (.int k'')) (hu : P.underlying u = some (.int k')) (hx : aev s x = some (.val (.int k n))) : Yields P C s (.convert t u x) ty (.val (.int k' (k'.wrap n))) := by
  intro d pos after a w ok F h
  refine ⟨.int k' (k'.wrap n), ?_, repV_val _ _ _ rfl⟩
  simp only [execOp, h.val hx]
  refine run_value ?_
  simp [convert, run_underlying ht, run_underlying hu, Conv.intToInt]
theorem Yields.conv_rune {x : Operand} {t u : TypeId} {k k'' : IntKind} {n : Int} (ht : P.underlying t = some (.int k'')) (hu : P.underlying u = some .string) (hx : aev s x = some (.val (.int k n))) : Yields P C s (.convert t u x) ty (.val (.string (Utf8.encode n))) := by
  intro d pos after a w ok F h
  refine ⟨.string (Utf8.encode n), ?_, repV_val _ _ _ rfl⟩
  simp only [execOp, h.val hx]
  refine run_value ?_
  simp [convert, run_underlying ht, run_underlying hu, Conv.intToString]
def bytesV (l : List UInt8) : List AV := l.map fun c => .val (.int .u8 c.toNat)
theorem repL_bytes {w : World} {ok : Nat → Prop} : ∀ {l : List UInt8} {c : List Value} {F : List Nat}, RepL w ok 1 (bytesV l) c F → F = [] ∧ c = l.map fun c => .int .u8 c.toNat
  | [], c, F, h => by simp only [bytesV, List.map_nil, RepL] at h; exact ⟨h.2, h.1⟩
  | b :: l, c, F, h => by
    simp only [bytesV, List.map_cons, RepL, Rep] at h
    obtain ⟨c1, c2, F1, F2, rfl, rfl, h1, h0, ⟨rfl, rfl, _⟩, h3⟩ := h
    obtain ⟨rfl, rfl⟩ := repL_bytes h3
    exact ⟨rfl, rfl⟩
theorem Yields.conv_bytes_row {x : Operand} {t u e : TypeId} {b j len k : Nat} {l : List UInt8} (ht : P.underlying t = some (.slice e)) (he : P.underlying e = some (.int .u8)) (hu : P.underlying u = some .string) (hx : aev s x = some (.loc (some b) 0 len k 1)) (hj : s.hp[j]? = some (some b, ⟨1, bytesV l⟩)) (hl : l.length = len) : Yields P C s (.convert t u x) ty (.val (.string ⟨l.toArray⟩)) := by
  intro d pos after a w ok F h
  obtain ⟨c0, h1, h2⟩ := h.ev hx
  simp only [Rep] at h1
  obtain ⟨_, cap, rfl, q1, q2, q3⟩ := h1
  obtain ⟨cells, F', r1, r2, _, _⟩ := h.row hj
  obtain ⟨_, rfl⟩ := repL_bytes r1
  refine ⟨.string ⟨l.toArray⟩, ?_, repV_val _ _ _ rfl⟩
  have hX : a.eval x = .slice (some ⟨b, 0, none⟩) l.length cap := by rw [h2, hl]; simp [wrapV]
  simp only [execOp, hX]
  refine run_value ?_
  rw [run_convert_bytes_back w t u e ⟨b, 0, none⟩ cap l ht he hu (fun i hi => by
    rw [Addr.add_lit, Nat.zero_add]
    exact r2.cell (by simp [hi]))]
theorem Yields.conv_bytes_ro {x : Operand} {t u e : TypeId} {l : List UInt8} {sp : List AV} {c : Bool} (ht : P.underlying t = some (.slice e)) (he : P.underlying e = some (.int .u8)) (hu : P.underlying u = some .string) (hx : aev s x = some (.ro 1 (bytesV l) sp c)) : Yields P C s (.convert t u x) ty (.val (.string ⟨l.toArray⟩)) := by
  intro d pos after a w ok F h
  obtain ⟨c0, h1, h2⟩ := h.ev hx
  simp only [Rep] at h1
  obtain ⟨_, A, cap, c1, c2, rfl, q1, q2, q3, q4, q5⟩ := h1
  obtain ⟨_, rfl⟩ := repL_bytes q3
  have hlen : (bytesV l).length = l.length := by simp [bytesV]
  refine ⟨.string ⟨l.toArray⟩, ?_, repV_val _ _ _ rfl⟩
  have hX : a.eval x = .slice A l.length cap := by rw [h2, ← hlen]; simp [wrapV]
  simp only [execOp, hX]
  refine run_value ?_
  cases A with
  | none =>
    rcases q5 with q5 | ⟨b, o, q5, _⟩
    · have : l = [] := by simpa using (List.append_eq_nil_iff.1 q5).1
      subst this
      rw [run_convert_bytes_nil w t e ht he _ _ u hu]
      rfl
    · cases q5
  | some A =>
    rw [run_convert_bytes_back w t u e A cap l ht he hu (fun i hi => ?_)]
    rcases q5 with q5 | ⟨b, o, q5, q6⟩
    · have : l = [] := by simpa using (List.append_eq_nil_iff.1 q5).1
      subst this
      simp at hi
    · simp only [Option.some.injEq] at q5
      subst q5
      rw [Addr.add_lit]
      have := q6.2 i (by simp; omega)
      rw [this, List.getElem_append_left (by simpa using hi)]
      simp
end
theorem encode_digit {n : Int} (h0 : 0 ≤ n) (h1 : n < 128) : Utf8.encode n = ⟨#[UInt8.ofNat n.toNat]⟩ := by
  have hv : Utf8.valid n = true := by
    unfold Utf8.valid; simp; omega
  unfold Utf8.encode
  simp only [hv, if_true]
  rw [if_pos (by omega)]
end Go.Ax
namespace Go.Ax
def bef (ops : List Oper) (j : Nat) : List Nat := match ops[j]? with | some o => befs o | none => []
def reachB (ops : List Oper) : Nat → Nat → Nat → Bool
  | 0, i, j => memN i (bef ops j)
  | n + 1, i, j => memN i (bef ops j) || (bef ops j).any (reachB ops n i)
def chainB (ops : List Oper) (m : Nat) : Bool := (List.range ops.length).all fun j => Nat.blt j m || (List.range j).all fun i => reachB ops 4 i j
theorem reach_listed {ops : List Oper} {listed : Array Bool} (hc : ∀ (i : Nat) (o : Oper), listed[i]? = some true → ops[i]? = some o → ∀ j ∈ befs o, listed[j]? = some true) :
    ∀ (n i j : Nat), reachB ops n i j = true → (∀ b ∈ bef ops j, listed[b]? = some true) → listed[i]? = some true
  | 0, i, j, h, hb => hb i (memN_iff.1 h)
  | n + 1, i, j, h, hb => by
    simp only [reachB, Bool.or_eq_true, List.any_eq_true] at h
    rcases h with h | ⟨x, hx, h⟩
    · exact hb i (memN_iff.1 h)
    · refine reach_listed hc n i x h fun b hbx => ?_
      unfold bef at hbx
      cases ho : ops[x]? with
      | none => rw [ho] at hbx; simp at hbx
      | some o => rw [ho] at hbx; exact hc x o (hb x hx) ho b hbx
theorem chain_at {ops : List Oper} {m j i : Nat} (h : chainB ops m = true) (hj : j < ops.length) (hm : m ≤ j) (hi : i < j) : reachB ops 4 i j = true := by
  unfold chainB at h
  rw [List.all_eq_true] at h
  have := h j (List.mem_range.2 hj)
  simp only [Bool.or_eq_true] at this
  rcases this with h' | h'
  · have := Nat.blt_eq.mp h'; omega
  · rw [List.all_eq_true] at h'
    exact h' i (List.mem_range.2 hi)
theorem left_pos {listed : Array Bool} {k : Nat} (hk : k < listed.size) (h : listed[k]? ≠ some true) : 0 < left listed := by
  have := left_set hk h; omega
theorem any_of_list {P : Program} {ops : List Oper} {m : Nat} (hch : chainB ops m = true) (hback : backB 0 ops = true) {Q : Exit → Act → World → Prop} : ∀ (n k : Nat) (listed : Array Bool) (a : Act) (w : World) (fuel : Nat), n = ops.length - k → m ≤ k → k ≤ ops.length → listed.size = ops.length →
    (∀ i, listed[i]? = some true ↔ i < k) → left listed ≤ fuel → wpList P ops.toArray Q (ops.drop k) a w → wpAny P .any ops.toArray Q fuel listed a w
  | 0, k, listed, a, w, fuel, hn, hm, hk, hs, hl, hf, h => by
    have hke : k = ops.length := by omega
    subst hke
    rw [List.drop_length] at h
    have hnil : Region.ready .any ops.toArray listed = [] := by
      cases hr : Region.ready .any ops.toArray listed with
      | nil => rfl
      | cons i r =>
        obtain ⟨o, ho, h2, h3⟩ := (ready_iff hs).1 (by rw [hr]; exact List.mem_cons_self ..)
        exact absurd ((hl i).2 (List.getElem?_eq_some_iff.1 ho).1) h2
    cases fuel with
    | zero => exact ⟨hnil, h⟩
    | succ fuel => exact ⟨fun _ => h, fun i hi => by rw [hnil] at hi; simp at hi⟩
  | n + 1, k, listed, a, w, fuel, hn, hm, hk, hs, hl, hf, h => by
    have hlt : k < ops.length := by omega
    have hnk : listed[k]? ≠ some true := fun e => by have := (hl k).1 e; omega
    rw [List.drop_eq_getElem_cons hlt] at h
    cases fuel with
    | zero => have := left_pos (by rw [hs]; exact hlt) hnk; omega
    | succ fuel =>
      refine ⟨fun hnil => absurd (all_listed hs hback hnil k hlt) hnk, fun i hi => ?_⟩
      obtain ⟨o, ho, h2, h3⟩ := (ready_iff hs).1 hi
      have hil := (List.getElem?_eq_some_iff.1 ho).1
      have hik : i = k := by
        have hge : k ≤ i := by
          rcases Nat.lt_or_ge i k with q | q
          · exact absurd ((hl i).2 q) h2
          · exact q
        rcases Nat.lt_or_ge k i with q | q
        · exfalso
          refine hnk (reach_listed (ops := ops) (listed := listed) (fun x ox hx hox j hj => ?_) 4 k i (chain_at hch hil (by omega) q) (fun b hb => ?_))
          · have := backB_at hback hox j hj
            exact (hl j).2 (by have := (hl x).1 hx; omega)
          · unfold bef at hb; rw [ho] at hb; exact h3 b hb
        · omega
      subst hik
      have ho' : ops.toArray[i]? = some o := by simpa using ho
      have hoe : ops[i] = o := (List.getElem?_eq_some_iff.1 ho).2
      rw [hoe] at h
      unfold wpOp
      rw [ho']
      simp only
      have hset : ∀ j, (listed.setIfInBounds i true)[j]? = some true ↔ j < i + 1 := by
        intro j
        rw [Array.getElem?_setIfInBounds]
        by_cases e : i = j
        · subst e; simp [hs, hlt]
        · rw [if_neg e, hl j]; omega
      have hleft := left_set (by rw [hs]; exact hlt) hnk
      have next : ∀ a w, wpList P ops.toArray Q (ops.drop (i + 1)) a w → wpAny P .any ops.toArray Q fuel (listed.setIfInBounds i true) a w := fun a w h' =>
        any_of_list hch hback n (i + 1) _ a w fuel (by omega) (by omega) (by omega) (by simp [hs]) hset (by omega) h'
      unfold wpList at h
      split at h
      · rename_i hw; rw [if_pos hw]; exact h.imp (Oper.wp_mono next) id
      · rename_i hw; rw [if_neg hw]; exact next _ _ h
section
variable {P : Program} {C : Ctx} {ops : List Oper} {tm : List (Nat × AV)} {hp : List (Option Nat × Row)} {con : List (Nat × Nat)} {K : St → Prop}
theorem anyS_of_inv {al : Ents} {m : Nat} (hml : m ≤ ops.length) (hch : chainB ops m = true) (hdif : difD ops = true) (hback : backB 0 ops = true) (hcon : conU con = true)
    (hal : ∀ x ∈ al, ∃ o, ops[x.1]? = some o ∧ o.dst = some x.2.1) (halm : ∀ x ∈ al, x.1 < m) (huni : (al.map (·.1)).Nodup)
    (hgood : ∀ j o, j < m → ops[j]? = some o → ∃ d v dn, o.dst = some d ∧ d < C.nt ∧ (j, d, v) ∈ al ∧ (∀ x ∈ dn, x ∈ al) ∧ (dn.map (·.1)).Nodup ∧ ((usesL con j dn).all fun e => memN e.1 (befs o)) = true ∧
        DGoodU P C ops.toArray ⟨rstP (befs o) dn ++ rstT ops j tm, hp⟩ ((usesL con j dn).map fun e => (e.2.1, e.2.2)) o v)
    {Q : Exit → Act → World → Prop} (hfin : DFin con K al ⟨rstW ops tm, hp⟩) (hQ : ∀ s a w, Rel C s a w → K s → wpList P ops.toArray Q (ops.drop m) a w) :
    ∀ (fuel : Nat) (listed : Array Bool) (a : Act) (w : World) (ok : Nat → Prop) (F : List Nat) (G : Nat → List Nat), left listed ≤ fuel → (∀ i, m ≤ i → listed[i]? ≠ some true) → DInvU C ops tm hp con al listed a w ok F G → wpAny P .any ops.toArray Q fuel listed a w := by
  have done : ∀ (listed : Array Bool) (a : Act) (w : World) (ok : Nat → Prop) (F : List Nat) (G : Nat → List Nat), DInvU C ops tm hp con al listed a w ok F G → (∀ i, i < m → listed[i]? = some true) → wpList P ops.toArray Q (ops.drop m) a w := by
    intro listed a w ok F G h hall
    have hr0 : RelX C ⟨rstW ops tm, hp⟩ a w ok F := by
      refine { h.rel with tm := fun t v ht => ?_ }
      obtain ⟨h1, h2⟩ := look_rstW ht
      exact h.olds t v h2 fun j o hj ho hd => noD_at h1 o (List.mem_of_getElem? ho) hd
    have live : ∀ e ∈ al, goneB e.1 con = false → liveU con listed e.1 := by
      intro e he hg
      refine ⟨hall e.1 (halm e he), fun k hk => ?_⟩
      rw [conOf_gone hk] at hg; cases hg
    obtain ⟨s', F', r1, r2⟩ := fin_rel (G := G) al ⟨rstW ops tm, hp⟩ F hr0 huni (fun e he hg => h.vals e he (live e he hg)) (fun e he e' he' hne hg hg' => h.disj e he e' he' (live e he hg) (live e' he' hg') hne) hfin
    exact hQ s' a w ⟨ok, F', r1⟩ r2
  have full : ∀ (listed : Array Bool) (a : Act) (w : World) (ok : Nat → Prop) (F : List Nat) (G : Nat → List Nat) (fuel : Nat), left listed ≤ fuel → (∀ i, m ≤ i → listed[i]? ≠ some true) → DInvU C ops tm hp con al listed a w ok F G → (∀ i, i < m → listed[i]? = some true) → wpAny P .any ops.toArray Q fuel listed a w := by
    intro listed a w ok F G fuel hl hno h hall
    refine any_of_list hch hback (ops.length - m) m listed a w fuel rfl (Nat.le_refl _) hml h.size (fun i => ⟨fun hi => ?_, hall i⟩) hl (done listed a w ok F G h hall)
    rcases Nat.lt_or_ge i m with q | q
    · exact q
    · exact absurd hi (hno i q)
  intro fuel
  induction fuel with
  | zero =>
    intro listed a w ok F G hl hno h
    refine full listed a w ok F G 0 hl hno h fun i hi => ?_
    by_cases e : listed[i]? = some true
    · exact e
    · have := left_pos (by rw [h.size]; omega) e; omega
  | succ fuel ih =>
    intro listed a w ok F G hl hno h
    by_cases hall : ∀ i, i < m → listed[i]? = some true
    · exact full listed a w ok F G (fuel + 1) hl hno h hall
    · obtain ⟨q, hq⟩ := Classical.not_forall.1 hall
      obtain ⟨hqm, hq⟩ := Classical.not_imp.1 hq
      refine ⟨fun hnil => absurd (all_listed h.size hback hnil q (by omega)) hq, fun i hi => ?_⟩
      obtain ⟨o, ho, h2, h3⟩ := (ready_iff h.size).1 hi
      have hil := (List.getElem?_eq_some_iff.1 ho).1
      have him : i < m := by
        rcases Nat.lt_or_ge i m with z | z
        · exact z
        · exfalso
          refine hq (reach_listed (ops := ops) (listed := listed) h.closed 4 q i (chain_at hch hil z (by omega)) (fun b hb => ?_))
          unfold bef at hb; rw [ho] at hb; exact h3 b hb
      obtain ⟨d, v, dn, e1, e2, e3, e4, e5, e6, e7⟩ := hgood i o him ho
      refine h.step hdif hcon hal huni ho e1 e2 e3 h3 h2 e4 e5 e6 e7 fun a' w' ok' G' h' => ?_
      have := left_set (by rw [h.size]; exact hil) h2
      refine ih _ a' w' ok' F G' (by omega) (fun j hj => ?_) h'
      rw [Array.getElem?_setIfInBounds, if_neg (by omega)]
      exact hno j hj
end
theorem AWP.drawnS {P : Program} {C : Ctx} {Q : Exit → St → Prop} {id : Nat} {ops : List Oper} {tm : List (Nat × AV)} {hp : List (Option Nat × Row)} (con : List (Nat × Nat)) (m : Nat) (hm : P.follows .mixedOrders = true) (hml : Nat.ble m ops.length = true) (hch : chainB ops m = true) (hdif : difD ops = true) (hback : backB 0 ops = true) (hcon : conU con = true)
    (h : DOpsU P C ops tm hp con (AOps P C ops.toArray (ops.drop m) (fun s' => Q .normal s')) (ops.take m) 0 []) : AWP P C (.region id ops.toArray true) Q ⟨tm, hp⟩ := by
  intro R a w hR ⟨ok, F, hr⟩
  have hml' : m ≤ ops.length := by simpa using hml
  refine wp_region_any hm ?_
  obtain ⟨al, -, huni, hK, hal, hgood⟩ := DOpsU.uni h (by simp) (by simp)
  refine anyS_of_inv (tm := tm) (hp := hp) (K := AOps P C ops.toArray (ops.drop m) (fun s' => Q .normal s')) hml' hch hdif hback hcon (fun x hx => ?_) (fun x hx => ?_) huni (fun j o hj ho => ?_) hK (fun s a' w' hr' hk => hk R a' w' (fun s2 a2 w2 hr2 hk2 => hR _ _ _ _ hr2 hk2) hr') _ _ _ _ ok F (fun _ => []) ?_ ?_ ?_
  · rcases hal x hx with g | ⟨j, o, e1, e2, e3⟩
    · simp at g
    · refine ⟨o, ?_, e3⟩
      rw [e2, Nat.zero_add]
      rw [List.getElem?_take] at e1
      split at e1
      · exact e1
      · cases e1
  · rcases hal x hx with g | ⟨j, o, e1, e2, e3⟩
    · simp at g
    · rw [List.getElem?_take] at e1
      split at e1
      · omega
      · cases e1
  · have := hgood j o (by rw [List.getElem?_take, if_pos hj]; exact ho)
    simpa using this
  · unfold left
    refine Nat.le_trans (List.length_filter_le _ _) ?_
    simp
  · intro i _ e
    rw [Array.getElem?_replicate] at e
    split at e <;> simp at e
  · have hno : ∀ i : Nat, (Array.replicate ops.toArray.size false)[i]? ≠ some true := by
      intro i e
      rw [Array.getElem?_replicate] at e
      split at e <;> simp at e
    exact ⟨{ hr.drew with tm := fun t v ht => by simp [look] at ht }, by simp, fun (i : Nat) o hi => absurd hi (hno i), fun e _ hl => absurd hl.1 (hno e.1), fun e _ hl => absurd hl (hno e.1), fun e _ e' _ hl => absurd hl.1 (hno e.1), fun t v ht _ => hr.drew.tm t v ht⟩
theorem DStepU.callF {P : Program} {C : Ctx} {s : St} {d : Option Tmp} {f : FuncId} {l : List Operand} {tys : Array TypeId} {ty : TypeId} {pos : String} {after : Array Edge} {g : Option (Nat × Bool)} {us ps outs : List AV} {r : AV}
    (hF : AF P C.g f ps r outs) (hx : aevs s l = some us) (hw : WkL us ps) : DStepU P C s [] ⟨d, .call ⟨.value (.func f), l.toArray, tys⟩, ty, pos, after, g⟩ r := by
  intro a w ok F G hr hu hG K Q hK
  simp only [List.map_nil, RepT] at hu
  obtain ⟨_, rfl⟩ := hu
  refine wp_call hF.ent ((hF.calls w _ [] ok (wkL_repT hw (hr.evs hx)) List.nodup_nil (by simp) (fun b hb => (hr.okOf b hb).1) hr.glob (fun b hb => hr.ok0 b (hr.low b hb))).mono ?_)
  rintro e w' ⟨v, Fr, Fo, ok', rfl, h1, h3, h4, h5, h6, h7, h8, h9, h10, h11, h12, h13⟩
  exact ⟨v, rfl, hK v w' ok' Fr ⟨h6, fun b hb => ⟨by rcases (h7 b hb).1 with q | q; exact .inl q; exact .inr (.inr q), (h7 b hb).2⟩, fun k hk _ => h8 k hk (by simp), h9, h10, h11, h12, h13⟩ h1 (List.nodup_append.1 h4).1 (fun b hb => h5 b (by simp [hb]))⟩
def CloseTo (hp : Hp) (r v : AV) : Prop := isAggV v = isAggV r ∧ ∀ w ok cs F, HpRep w ok hp F → Rep w ok r cs [] → ∃ G, F.Perm G ∧ Rep w ok v cs G
theorem CloseTo.one {B : Option Nat} {row : Row} {r v : AV} (h : SealTo B row r v) : CloseTo [(B, row)] r v := ⟨h.1, fun w ok cs F h1 h2 => by
  obtain ⟨F1, F2, rfl, q1, q2⟩ := h1
  simp only [HpRep] at q2
  subst q2
  obtain ⟨G, g1, g2⟩ := h.2 w ok cs [] F1 h2 q1
  exact ⟨G, by simpa using g1, g2⟩⟩
theorem AH.toOwn {P : Program} {g : GL} {f : FuncId} {ps : List AV} {post : AV → Hp → Prop} {v : AV} (hpl : plainL ps = true) (h : AH P g f [] ps post) (hv : ∀ r hp', post r hp' → CloseTo hp' r v) : AF P g f ps v (noOuts ps) := by
  refine ⟨h.ent, fun w vs F ok h1 h3 h4 h5 h6 h7 => ?_⟩
  have hF0 := plainT_foot ps vs F h1 hpl
  subst hF0
  refine (h.calls w vs [] ok rfl h1 List.nodup_nil (by simp) h5 h6 h7).mono ?_
  rintro e w' ⟨r, hp', u, F', ok', q, rfl, ⟨cs, g1, g1'⟩, g2, g3, g4, g5, g6, g7, g8, g9, g10, g11, g12⟩
  have hz := hv r hp' q
  obtain ⟨G, p1, p2⟩ := hz.2 w' ok' cs F' g2 g1
  refine ⟨u, G, [], ok', rfl, ⟨cs, p2, by rw [g1', wrap_isAgg hz.1]⟩, repT_undef ps vs (repT_length h1), by simpa using p1.nodup_iff.1 g3, fun b hb => ?_, g5, fun b hb => ?_, g7, g8, g9, g10, g11, g12⟩
  · simp only [List.append_nil] at hb
    exact g4 b (p1.mem_iff.2 hb)
  · obtain ⟨q1, q2⟩ := g6 b hb
    exact ⟨by simpa using q1, q2⟩
def exactV (v : AV) (cs : List Value) : AV := cond (isAggV v) (.agg (cs.map .val)) (.val (cs.headD undef))
theorem exact_one {w : World} {ok : Nat → Prop} {v : AV} {cs : List Value} {G : List Nat} (h : Rep w ok v cs G) (hc : cellV v = true) (ha : isAggV v = false) : ∃ u, cs = [u] ∧ u.oneCell' = true := by
  have h1 := rep_width h (by rintro rfl; simp [cellV] at hc)
  have h2 := rep_cells h hc
  have hw : width v = 1 := by cases v <;> first | rfl | (simp [isAggV] at ha)
  rw [hw] at h1
  match cs, h1 with
  | [u], _ => exact ⟨u, rfl, h2 u (by simp)⟩
theorem exact_rep {w : World} {ok : Nat → Prop} {v : AV} {cs : List Value} {G : List Nat} (h : Rep w ok v cs G) (hc : cellV v = true) : Rep w ok (exactV v cs) cs [] ∧ isAggV (exactV v cs) = isAggV v ∧ cellV (exactV v cs) = true ∧ width (exactV v cs) = cs.length := by
  unfold exactV
  cases ha : isAggV v with
  | true =>
    simp only [cond_true]
    refine ⟨?_, rfl, rfl, by simp [width]⟩
    simp only [Rep]
    exact repL_vals w ok cs (by rw [List.all_eq_true]; exact fun x hx => rep_cells h hc x hx)
  | false =>
    obtain ⟨u, rfl, hu⟩ := exact_one h hc ha
    exact ⟨by simp [Rep, hu], rfl, rfl, rfl⟩
theorem repL_valsInv1 {w : World} {ok : Nat → Prop} : ∀ {l c : List Value} {F : List Nat}, RepL w ok 1 (l.map .val) c F → c = l ∧ F = []
  | [], c, F, h => by simp only [List.map_nil, RepL] at h; exact h
  | v :: l, c, F, h => by
    simp only [List.map_cons, RepL, Rep] at h
    obtain ⟨c1, c2, F1, F2, rfl, rfl, h1, h0, ⟨rfl, rfl, _⟩, h3⟩ := h
    obtain ⟨rfl, rfl⟩ := repL_valsInv1 h3
    exact ⟨rfl, rfl⟩
theorem exact_inv {w w' : World} {ok ok' : Nat → Prop} {v : AV} {cs c : List Value} {G F : List Nat} (h : Rep w ok v cs G) (hc : cellV v = true) (h' : Rep w' ok' (exactV v cs) c F) : c = cs := by
  unfold exactV at h'
  cases ha : isAggV v with
  | true =>
    rw [ha, cond_true] at h'
    simp only [Rep] at h'
    exact (repL_valsInv1 h').1
  | false =>
    rw [ha, cond_false] at h'
    obtain ⟨u, rfl, hu⟩ := exact_one h hc ha
    simp only [Rep] at h'
    exact h'.2.1
theorem DStepU.buildOne {P : Program} {C : Ctx} {s : St} {d : Option Tmp} {T e n bb t : Nat} {ty : TypeId} {pos : String} {after : Array Edge} {g : Option (Nat × Bool)} {v : AV} {z : Value}
    (hT : slElem P T = some (e, n, bb)) (hz : zeroT P e = some z) (hc : cellV v = true) (hw : width v = n) (hs : Nat.ble (1 * n) 16777216 = true) :
    DStepU P C s [(t, v)] ⟨d, .buildSlice T 1 #[(0, .tmp t)], ty, pos, after, g⟩ (.own n [v] []) := by
  intro a w ok F G hr hu hG K Q hK
  simp only [List.map_cons, List.map_nil, RepT] at hu
  obtain ⟨v0, vs, c1, G1, G2, e1, rfl, h1, h2, h3, rfl⟩ := hu
  simp only [List.cons.injEq] at e1
  obtain ⟨e1, _⟩ := e1
  rw [List.append_nil] at hG hK
  obtain ⟨x1, x2, x3, x4⟩ := exact_rep h1 hc
  have hlen : c1.length = n := by rw [← hw]; exact rep_width h1 (by rintro rfl; simp [cellV] at hc)
  have hr1 : RelX C ⟨(t, exactV v c1) :: s.tm, s.hp⟩ a w ok F := by
    refine { hr with tm := fun u x hx => ?_ }
    rw [look_cons] at hx
    by_cases e : t = u
    · subst e; simp only [if_true, Option.some.injEq] at hx; subst hx
      exact ⟨c1, x1, by rw [e1, h2, wrap_isAgg x2]⟩
    · rw [if_neg e] at hx; exact hr.tm u x hx
  obtain ⟨cells, k1, k2, k3, k4⟩ := buildSlice_run (parts := [(0, .tmp t)]) (vs := [exactV v c1]) (len := 1) hr1 hT hz (by simp [partsL, aev, look_cons]) (by simp [allV, x3, x4, hlen]) rfl hs
  simp only [RepL] at k1
  obtain ⟨d1, d2, F1, F2, rfl, hF, d3, d4, d5, rfl, rfl⟩ := k1
  have hcell := exact_inv h1 hc d5
  subst hcell
  rw [List.append_nil] at k2 k3
  unfold Oper.wp
  have hrun : (execOp a.eval ⟨d, .buildSlice T 1 #[(0, .tmp t)], ty, pos, after, g⟩).run P w = .ok (.value (.slice (some ⟨w.heap.size, 0, none⟩) 1 1)) (w.alloc (.cells (d1 ++ []).toArray e)) := run_value k3
  have hk : ∀ H : List Nat, (∀ b ∈ H, b < w.heap.size) → Keeps w (w.alloc (.cells (d1 ++ []).toArray e)) ok ok H := fun H hH => keeps_alloc hr.okLt hH _
  have hold : ∀ b ∈ G1, b < w.heap.size := fun b hb => (hG.2 b hb).2.2.1
  rw [hrun, Oper.upon_value]
  refine hK _ _ ok (w.heap.size :: G1) ⟨fun _ h => h, fun b hb => ⟨.inl hb, by have := hr.okLt b hb; simp; omega⟩, fun k hk' _ => Go.RowKit.Below.heap_alloc w _ k hk', by simp, rfl, rfl, rfl, (hk [] (by simp)).room⟩ ⟨[.slice (some ⟨w.heap.size, 0, none⟩) 1 1], ?_, rfl⟩ ?_ (fun b hb => ?_)
  · simp only [Rep]
    refine .inr ⟨w.heap.size, 1, d1, [], G1, [], rfl, Nat.le_refl _, ?_, by simp [RepL], ⟨(d1 ++ []).toArray, e, by show (w.heap.push _)[w.heap.size]? = _; simp, by simp, by simp [d3]⟩, by simp⟩
    simp only [RepL]
    exact ⟨d1, [], G1, [], by simp, by simp, d3, d4, Rep.keep _ _ _ (hk G1 hold) h1, rfl, rfl⟩
  · refine List.nodup_cons.2 ⟨fun hb => ?_, hG.1⟩
    have := hold _ hb; omega
  · rcases List.mem_cons.1 hb with rfl | hb
    · exact ⟨.inr (Nat.le_refl _), fun hh => by have := hr.okLt _ hh; omega, by simp⟩
    · obtain ⟨_, q2, q3, q4⟩ := hG.2 b hb
      exact ⟨.inl hb, q2, by simp; omega⟩
theorem Leads.rowWk {C : Ctx} {s : St} (j i : Nat) {B : Option Nat} {n : Nat} {xs : List AV} {e e' : AV} (hj : s.hp[j]? = some (B, ⟨n, xs⟩)) (hi : xs[i]? = some e) (hw : Wk e e') : Leads C s ⟨s.tm, s.hp.set j (B, ⟨n, xs.set i e'⟩)⟩ := fun a w ⟨ok, F, hr⟩ => by
  obtain ⟨Fp, Fr, Fq, e0, hrow, hset⟩ := hr.hp.at hj
  subst e0
  cases B with
  | none =>
    obtain ⟨hx, _⟩ := hrow
    simp only at hx
    subst hx
    simp at hi
  | some b =>
    obtain ⟨cells, F', r1, r2, rfl⟩ := hrow
    obtain ⟨Fe, Gp, Gq, rfl, k1, k3, k2⟩ := r1.hole hi
    have hnew := hset w ok (some b) ⟨n, xs.set i e'⟩ _ (Keeps.more (fun _ h => h) _) ⟨cells, _, k2 e' Fe (hw.2 w ok _ Fe k1), r2, rfl⟩
    exact ⟨ok, _, { hr with hp := hnew }⟩
theorem Leads.row0 {C : Ctx} {s : St} (n : Nat) : Leads C s ⟨s.tm, (none, ⟨n, []⟩) :: s.hp⟩ := fun a w ⟨ok, F, hr⟩ => ⟨ok, F, { hr with hp := ⟨[], F, rfl, ⟨rfl, rfl⟩, hr.hp⟩ }⟩
theorem Wk.nilLoc {n : Nat} : Wk (.val (.slice none 0 0)) (.loc none 0 0 0 n) := ⟨rfl, fun w ok cs F hr => by
  simp only [Rep] at hr ⊢
  exact ⟨hr.1, trivial, trivial, trivial, hr.2.1⟩⟩
theorem fzL_repT {hp1 : Hp} {w : World} {ok : Nat → Prop} {F : List Nat} (h1 : HpRep w ok hp1 F) : ∀ {us ps : List AV} {vs : List Value}, FzL hp1 us ps → RepT w ok us vs [] → RepT w (fun b => ok b ∨ b ∈ F) ps vs []
  | [], [], vs, _, h => by simp only [RepT] at h ⊢; exact h
  | a :: us, p :: ps, vs, hv, h => by
    simp only [RepT] at h ⊢
    obtain ⟨v, vs', c1, G1, G2, rfl, hG, g1, g2, g3⟩ := h
    obtain ⟨rfl, rfl⟩ := List.append_eq_nil_iff.1 hG.symm
    exact ⟨v, vs', c1, [], [], rfl, rfl, hv.1.2 w ok F c1 h1 g1, by rw [g2, wrap_isAgg hv.1.1], fzL_repT h1 hv.2 g3⟩
  | [], _ :: _, _, h, _ => h.elim
  | _ :: _, [], _, h, _ => h.elim
theorem Fz.tup {hp1 : Hp} {us ps : List AV} (h : FzL hp1 us ps) : Fz hp1 (.tup us) (.tup ps) := ⟨rfl, fun w ok F cs h1 hr => by
  simp only [Rep] at hr ⊢
  obtain ⟨vals, rfl, h2⟩ := hr
  exact ⟨vals, rfl, fzL_repT h1 h h2⟩⟩
theorem BinR.mulI {P : Program} {t : TypeId} {x y : Operand} {a b : Int} (h1 : -9223372036854775808 ≤ a * b) (h2 : a * b ≤ 9223372036854775807) : BinR P .mul t x y (.int .i64 a) (.int .i64 b) (.int .i64 (a * b)) := by
  have := BinR.mul (P := P) (t := t) (x := x) (y := y) (k := .i64) (a := a) (b := b)
  rwa [wrap_i64_in h1 h2] at this
theorem bytesV_length (l : List UInt8) : (bytesV l).length = l.length := by simp [bytesV]
theorem bytesV_at {l : List UInt8} {i : Nat} {c : UInt8} (h : l[i]? = some c) : (bytesV l)[i]? = some (.val (.int .u8 c.toNat)) := by simp [bytesV, h]
end Go.Ax
namespace Go.Ax
def rchGo (ops : List Oper) : Nat → List Nat → List Nat
  | 0, S => S
  | j + 1, S => rchGo ops j (cond (memN j S) (bef ops j ++ S) S)
def rch (ops : List Oper) (e : Nat) : List Nat := rchGo ops e (bef ops e)
theorem bef_listed {ops : List Oper} {listed : Array Bool} (hc : ∀ (i : Nat) (o : Oper), listed[i]? = some true → ops[i]? = some o → ∀ j ∈ befs o, listed[j]? = some true) {j : Nat} (h : listed[j]? = some true) : ∀ b ∈ bef ops j, listed[b]? = some true := by
  intro b hb
  unfold bef at hb
  cases ho : ops[j]? with
  | none => rw [ho] at hb; simp at hb
  | some o => rw [ho] at hb; exact hc j o h ho b hb
theorem rchGo_listed {ops : List Oper} {listed : Array Bool} (hc : ∀ (i : Nat) (o : Oper), listed[i]? = some true → ops[i]? = some o → ∀ j ∈ befs o, listed[j]? = some true) :
    ∀ (n : Nat) (S : List Nat), (∀ b ∈ S, listed[b]? = some true) → ∀ b ∈ rchGo ops n S, listed[b]? = some true
  | 0, S, h, b, hb => h b hb
  | n + 1, S, h, b, hb => by
    simp only [rchGo] at hb
    cases hm : memN n S with
    | false => rw [hm, cond_false] at hb; exact rchGo_listed hc n S h b hb
    | true =>
      rw [hm, cond_true] at hb
      refine rchGo_listed hc n _ (fun x hx => ?_) b hb
      rcases List.mem_append.1 hx with hx | hx
      · exact bef_listed hc (h n (memN_iff.1 hm)) x hx
      · exact h x hx
inductive Item where
  | pure (j : Nat)
  | spine (e : Nat) (os R : List Nat)
def Item.idx : Item → Nat
  | .pure j => j
  | .spine e _ _ => e
def planOk (ops : List Oper) (con : List (Nat × Nat)) : List Item → Bool
  | [] => true
  | .pure _ :: r => planOk ops con r
  | .spine e os R :: r => (r.all fun x => memN e (rch ops x.idx)) && (R.all fun j => memN j (rch ops e)) && (os.all fun j => memN j R && !goneB j con) && planOk ops con r
def nodupN : List Nat → Bool
  | [] => true
  | i :: r => !memN i r && nodupN r
def coverB (n : Nat) (plan : List Item) : Bool := ((List.range n).all fun i => memN i (plan.map Item.idx)) && nodupN (plan.map Item.idx)
theorem nodupN_spec : ∀ {l : List Nat}, nodupN l = true → l.Nodup
  | [], _ => List.nodup_nil
  | i :: r, h => by
    simp only [nodupN, Bool.and_eq_true, Bool.not_eq_true'] at h
    refine List.nodup_cons.2 ⟨fun hh => ?_, nodupN_spec h.2⟩
    have h1 := h.1
    rw [memN_iff.2 hh] at h1
    cases h1
def Ctx.re (C : Ctx) (w : World) (ok : Nat → Prop) (F : List Nat) : Ctx := ⟨C.g, C.nt, w, ok, F, C.fz⟩
theorem RelX.re {C : Ctx} {s : St} {a : Act} {w : World} {ok : Nat → Prop} {F : List Nat} (h : RelX C s a w ok F) : RelX (C.re w ok F) s a w ok F :=
  { size := h.size, defers := h.defers, tm := h.tm, hp := h.hp, nodup := h.nodup, own := fun b hb => ⟨.inl hb, (h.own b hb).2⟩, okOf := fun b hb => ⟨(h.okOf b hb).1, .inl hb⟩, ok0 := fun _ hb => hb,
    frame := fun _ _ _ => rfl, grown := Nat.le_refl _, room := fun _ _ hb => hb, os := rfl, tape := rfl, output := rfl, gl := h.glob, low := fun b hb => h.ok0 b (h.low b hb), sep := fun b hb => ⟨(h.okOf b hb).1, fun hF => (h.own b hF).2.1 hb⟩ }
theorem RelX.unre {C : Ctx} {s s' : St} {a a' : Act} {w w' : World} {ok ok' : Nat → Prop} {F F' : List Nat} (h : RelX C s a w ok F) (h' : RelX (C.re w ok F) s' a' w' ok' F') : RelX C s' a' w' ok' F' :=
  { size := h'.size, defers := h'.defers, tm := h'.tm, hp := h'.hp, nodup := h'.nodup,
    own := fun b hb => by
      obtain ⟨q1, q2⟩ := h'.own b hb
      refine ⟨?_, q2⟩
      rcases q1 with q | q
      · exact (h.own b q).1
      · exact .inr (Nat.le_trans h.grown q)
    okOf := fun b hb => by
      obtain ⟨q1, q2⟩ := h'.okOf b hb
      refine ⟨q1, ?_⟩
      rcases q2 with q | ⟨q, q3⟩ | q
      · exact (h.okOf b q).2
      · rcases (h.own b q3).1 with z | z
        · exact .inr (.inl ⟨q, z⟩)
        · exact .inr (.inr z)
      · exact .inr (.inr (Nat.le_trans h.grown q))
    ok0 := fun b hb => h'.ok0 b (h.ok0 b hb)
    frame := fun k hk1 hk2 => by
      have hkF : k ∉ F := fun hF => by
        rcases (h.own k hF).1 with z | z
        · exact hk2 z
        · omega
      have := h.grown
      rw [h'.frame k (by show k < w.heap.size; omega) hkF]
      exact h.frame k hk1 hk2
    grown := Nat.le_trans h.grown h'.grown
    room := fun b m hb => h'.room b m (h.room b m hb)
    os := h'.os.trans h.os, tape := h'.tape.trans h.tape, output := h'.output.trans h.output, gl := h.gl, low := h.low, sep := h.sep }
theorem RelX.beside {C : Ctx} {s s' : St} {a a' : Act} {w w' : World} {ok ok' : Nat → Prop} {F F' : List Nat} (h : RelX C s a w ok F) (h' : RelX (C.re w ok F) s' a' w' ok' F') {G : List Nat} (hG : OwnU C w ok F G) : Keeps w w' ok ok' G ∧ OwnU C w' ok' F' G := by
  refine ⟨⟨fun b hb => ⟨h'.ok0 b hb, h'.frame b (h.okOf b hb).1 fun hF => (h.own b hF).2.1 hb⟩, fun b hb => h'.frame b (hG.2 b hb).2.2.1 (hG.2 b hb).1, fun b m hb => h'.room b m hb⟩, hG.1, fun b hb => ?_⟩
  obtain ⟨q1, q2, q3, q4⟩ := hG.2 b hb
  have hg : w.heap.size ≤ w'.heap.size := h'.grown
  refine ⟨fun hF => ?_, fun hk => ?_, by omega, q4⟩
  · rcases (h'.own b hF).1 with z | z
    · exact q1 z
    · have : w.heap.size ≤ b := z
      omega
  · rcases (h'.okOf b hk).2 with z | ⟨_, z⟩ | z
    · exact q2 z
    · exact q1 z
    · have : w.heap.size ≤ b := z
      omega
theorem Oper.wp_putd {P : Program} {o : Oper} {a : Act} {w : World} {K : Act → World → Prop} {Q : Exit → Act → World → Prop} (hh : o.wp P a w K Q) : o.wp P a w (fun a' w' => K a' w' ∧ (a'.defers = [] → ∃ cv, a' = a.put o.dst cv)) Q := by
  unfold Oper.wp at *
  generalize (execOp a.eval o).run P w = r at *
  cases r with
  | ok n w' =>
    cases n <;> simp only [Oper.upon] at hh ⊢
    case value u => exact ⟨hh, fun _ => ⟨_, rfl⟩⟩
    case skip => exact ⟨hh, fun _ => ⟨_, rfl⟩⟩
    case defer d => exact ⟨hh, fun h => by exfalso; revert h; cases o.dst <;> simp [Act.put]⟩
    case enter f args => exact Calls.mono hh (fun e w'' he => by cases e <;> first | exact ⟨he, fun _ => ⟨_, rfl⟩⟩ | exact he)
    case row row args => exact Rows.mono hh (fun _ _ he => ⟨he, fun _ => ⟨_, rfl⟩⟩)
  | halt x w' => cases x <;> simp only [Oper.upon] at hh ⊢ <;> exact hh
theorem Oper.wp_monoQ {P : Program} {o : Oper} {a : Act} {w : World} {K : Act → World → Prop} {Q Q' : Exit → Act → World → Prop} (h1 : ∀ c a w, Q (.panic c) a w → Q' (.panic c) a w) (h2 : LetsOut Q → LetsOut Q') (hh : o.wp P a w K Q) : o.wp P a w K Q' := by
  unfold Oper.wp at *
  generalize (execOp a.eval o).run P w = r at *
  cases r with
  | ok n w' =>
    cases n <;> simp only [Oper.upon] at hh ⊢ <;>
      first
        | exact hh
        | exact Calls.mono hh (fun e w'' he => by cases e <;> first | exact he | exact h1 _ _ _ he | exact h2 he)
  | halt x w' => cases x <;> simp only [Oper.upon] at hh ⊢ <;> first | exact hh | exact h1 _ _ _ hh
section
variable (P : Program) (C : Ctx) (ops : List Oper) (tm : List (Nat × AV)) (con : List (Nat × Nat)) (K : St → Prop)
def DOpen (K : Ents → Hp → Prop) : List Nat → Ents → Hp → Prop
  | [], l, hp => K l hp
  | j :: os, l, hp => ∃ v, valD j l = some v ∧ ∀ v' rows, Opn v v' rows → DOpen K os (setD j v' l) (rows ++ hp)
def GoodX (done : Ents) (hp : Hp) (x : Nat × Nat × AV) : Prop := ∃ o, ops[x.1]? = some o ∧ o.dst = some x.2.1 ∧ x.2.1 < C.nt ∧ ((usesL con x.1 done).all fun e => memN e.1 (befs o)) = true ∧
  DGoodU P C ops.toArray ⟨rstP (befs o) done ++ rstT ops x.1 tm, hp⟩ ((usesL con x.1 done).map fun e => (e.2.1, e.2.2)) o x.2.2
def Stab (G : Nat × Nat × AV → Prop) (l : List Nat) : Ents → Prop
  | [] => True
  | x :: r => cond (memN x.1 l) (Stab G l r) (G x ∧ Stab G l r)
def DPost (dst : Option Nat) (e : Nat) (T' : List (Nat × AV)) (done done2 : Ents) : Prop :=
  match dst with
  | some d => ∃ v, look T' d = some v ∧ done2 = (e, d, v) :: done
  | none => done2 = done
def spT (e : Nat) (R : List Nat) (done : Ents) : List (Nat × AV) := rstP R done ++ rstT ops e tm
def DM : List Item → Ents → Hp → Prop
  | [], done, hp => DFin con K done ⟨rstW ops tm, hp⟩
  | .pure j :: r, done, hp => ∃ d v, GoodX P C ops tm con done hp (j, d, v) ∧ DM r ((j, d, v) :: done) hp
  | .spine e os R :: r, done, hp => ∃ o, ops[e]? = some o ∧ (∀ d, o.dst = some d → d < C.nt) ∧ DOpen (fun done' hp' => ∀ w1 ok1 F1, AOps P (C.re w1 ok1 F1) ops.toArray [o] (fun s' => ∃ done2, DPost o.dst e s'.tm done' done2 ∧
      Stab (GoodX P C ops tm con done2 s'.hp) (e :: R) done2 ∧ DM r done2 s'.hp) ⟨spT ops tm e R done', hp'⟩) os done hp
end
theorem stab_at {G : Nat × Nat × AV → Prop} {l : List Nat} : ∀ {d : Ents}, Stab G l d → ∀ x ∈ d, x.1 ∉ l → G x
  | [], _, x, hx, _ => by simp at hx
  | y :: d, h, x, hx, hn => by
    simp only [Stab] at h
    cases hb : memN y.1 l with
    | true =>
      rw [hb, cond_true] at h
      rcases List.mem_cons.1 hx with rfl | hx
      · exact (hn (memN_iff.1 hb)).elim
      · exact stab_at h x hx hn
    | false =>
      rw [hb, cond_false] at h
      rcases List.mem_cons.1 hx with rfl | hx
      · exact h.1
      · exact stab_at h.2 x hx hn
theorem valD_mem {j : Nat} {v : AV} : ∀ {l : Ents}, valD j l = some v → ∃ d, (j, d, v) ∈ l
  | [], h => by simp [valD] at h
  | (i, d, u) :: l, h => by
    simp only [valD] at h
    cases hb : Nat.beq i j with
    | true =>
      rw [hb, cond_true, Option.some.injEq] at h
      have := Nat.eq_of_beq_eq_true hb
      subst this; subst h
      exact ⟨d, List.mem_cons_self ..⟩
    | false =>
      rw [hb, cond_false] at h
      obtain ⟨d', h'⟩ := valD_mem h
      exact ⟨d', List.mem_cons_of_mem _ h'⟩
theorem setD_map (j : Nat) (v : AV) : ∀ l : Ents, (setD j v l).map (fun x => (x.1, x.2.1)) = l.map (fun x => (x.1, x.2.1))
  | [] => rfl
  | (i, d, u) :: l => by
    simp only [setD]
    cases Nat.beq i j with
    | true => rfl
    | false => simp only [cond_false, List.map_cons, setD_map j v l]
theorem map_idx {l l' : Ents} (h : l'.map (fun x => (x.1, x.2.1)) = l.map (fun x => (x.1, x.2.1))) : l'.map (·.1) = l.map (·.1) := by
  have := congrArg (List.map Prod.fst) h
  simpa [List.map_map, Function.comp_def] using this
theorem map_at {l l' : Ents} (h : l'.map (fun x => (x.1, x.2.1)) = l.map (fun x => (x.1, x.2.1))) : ∀ x ∈ l', ∃ u, (x.1, x.2.1, u) ∈ l := by
  intro x hx
  have : (x.1, x.2.1) ∈ l.map (fun x => (x.1, x.2.1)) := by rw [← h]; exact List.mem_map.2 ⟨x, hx, rfl⟩
  obtain ⟨y, hy, e⟩ := List.mem_map.1 this
  simp only [Prod.mk.injEq] at e
  exact ⟨y.2.2, by rw [← e.1, ← e.2]; exact hy⟩
theorem mem_setD {j : Nat} {v : AV} : ∀ {l : Ents}, (l.map (·.1)).Nodup → ∀ x ∈ setD j v l, (x ∈ l ∧ x.1 ≠ j) ∨ ∃ d u, x = (j, d, v) ∧ (j, d, u) ∈ l
  | [], _, x, hx => by simp [setD] at hx
  | (i, d, u) :: l, hn, x, hx => by
    simp only [List.map_cons, List.nodup_cons] at hn
    simp only [setD] at hx
    cases hb : Nat.beq i j with
    | true =>
      have e := Nat.eq_of_beq_eq_true hb
      subst e
      rw [hb, cond_true] at hx
      rcases List.mem_cons.1 hx with rfl | hx
      · exact .inr ⟨d, u, rfl, List.mem_cons_self ..⟩
      · exact .inl ⟨List.mem_cons_of_mem _ hx, fun e => hn.1 (List.mem_map.2 ⟨x, hx, e⟩)⟩
    | false =>
      rw [hb, cond_false] at hx
      rcases List.mem_cons.1 hx with rfl | hx
      · exact .inl ⟨List.mem_cons_self .., fun (e : i = j) => by rw [e] at hb; simp at hb⟩
      · rcases mem_setD hn.2 x hx with ⟨q1, q2⟩ | ⟨d', u', q1, q2⟩
        · exact .inl ⟨List.mem_cons_of_mem _ q1, q2⟩
        · exact .inr ⟨d', u', q1, List.mem_cons_of_mem _ q2⟩
section
variable {P : Program} {C : Ctx} {ops : List Oper} {tm : List (Nat × AV)} {hp : List (Option Nat × Row)} {con : List (Nat × Nat)} {K : St → Prop}
theorem DInvU.rstG {al : Ents} {listed : Array Bool} {a : Act} {w : World} {ok : Nat → Prop} {F : List Nat} {G : Nat → List Nat} (h : DInvU C ops tm hp con al listed a w ok F G) {k : Nat} {b : List Nat}
    (hk : listed[k]? ≠ some true) (hb : ∀ j ∈ b, listed[j]? = some true) : RelX C ⟨rstP b al ++ rstT ops k tm, hp⟩ a w ok F := by
  refine { h.rel with tm := fun t v ht => ?_ }
  rw [look_append] at ht
  cases hl : look (rstP b al) t with
  | some u =>
    rw [hl] at ht
    simp only [Option.some.injEq] at ht
    subst ht
    obtain ⟨j, h1, h2, h3⟩ := look_rstP hl
    exact h.pls (j, t, u) h1 (hb j h2) h3
  | none =>
    rw [hl] at ht
    obtain ⟨h1, h2⟩ := look_rstT ht
    refine h.olds t v h2 fun j o' hj ho' hd => ?_
    rcases okT_at h1 ho' hd with e | e
    · have : j = k := by omega
      subst this; exact hk hj
    · exact hk (h.closed j o' hj ho' k e)
theorem DInvU.open1 {al : Ents} {listed : Array Bool} {a : Act} {w : World} {ok : Nat → Prop} {F : List Nat} {G : Nat → List Nat} (h : DInvU C ops tm hp con al listed a w ok F G) (huni : (al.map (·.1)).Nodup) {j : Nat} {v : AV}
    (hv : valD j al = some v) (hl : liveU con listed j) : ∃ v' rows, Opn v v' rows ∧ DInvU C ops tm (rows ++ hp) con (setD j v' al) listed a w ok (G j ++ F) (fun i => if i = j then [] else G i) := by
  obtain ⟨d, hd⟩ := valD_mem hv
  obtain ⟨⟨cs, r1, r2⟩, hO⟩ := h.vals _ hd hl
  obtain ⟨v', rows, o1, o2, o3, o4⟩ := opn_rep v cs (G j) r1
  have hnew : RepV w ok v' (a.tmps.getD d undef) [] := ⟨cs, o3, by rw [r2, wrap_isAgg o2]⟩
  have at' : ∀ x ∈ setD j v' al, (x ∈ al ∧ x.1 ≠ j) ∨ x = (j, d, v') := by
    intro x hx
    rcases mem_setD huni x hx with q | ⟨d', u', q1, q2⟩
    · exact .inl q
    · have := nodup_idx huni q2 hd rfl
      simp only [Prod.mk.injEq] at this
      rw [this.2.1] at q1
      exact .inr q1
  refine ⟨v', rows, o1, ?_, h.size, h.closed, ?_, ?_, ?_, h.olds⟩
  · refine { h.rel with tm := fun t u ht => by simp [look] at ht, hp := HpRep.append o4 h.rel.hp, nodup := List.nodup_append.2 ⟨hO.1, h.rel.nodup, fun x hx y hy e => (hO.2 x hx).1 (e ▸ hy)⟩, own := fun b hb => ?_ }
    rcases List.mem_append.1 hb with hb | hb
    · obtain ⟨_, q2, q3, q4⟩ := hO.2 b hb; exact ⟨.inr q4, q2, q3⟩
    · exact h.rel.own b hb
  · intro x hx hlx
    rcases at' x hx with ⟨q1, q2⟩ | rfl
    · obtain ⟨r1, r2, r3⟩ := h.vals x q1 hlx
      rw [if_neg q2]
      refine ⟨r1, r2, fun b hb => ⟨fun hh => ?_, (r3 b hb).2⟩⟩
      rcases List.mem_append.1 hh with hh | hh
      · exact h.disj x q1 _ hd hlx hl q2 b hb hh
      · exact (r3 b hb).1 hh
    · rw [if_pos rfl]
      exact ⟨hnew, List.nodup_nil, by simp⟩
  · intro x hx hlx hpl
    rcases at' x hx with ⟨q1, q2⟩ | rfl
    · exact h.pls x q1 hlx hpl
    · exact hnew
  · intro x hx y hy hlx hly hne b hbx hby
    rcases at' x hx with ⟨q1, q2⟩ | rfl
    · rw [if_neg q2] at hbx
      rcases at' y hy with ⟨z1, z2⟩ | rfl
      · rw [if_neg z2] at hby
        exact h.disj x q1 y z1 hlx hly hne b hbx hby
      · simp at hby
    · simp at hbx
theorem DInvU.opens {listed : Array Bool} {a : Act} {w : World} {ok : Nat → Prop} {T : Ents → Hp → Prop} : ∀ (os : List Nat) (al : Ents) (hp : Hp) (F : List Nat) (G : Nat → List Nat), DOpen T os al hp → DInvU C ops tm hp con al listed a w ok F G → (al.map (·.1)).Nodup → (∀ j ∈ os, liveU con listed j) →
    ∃ al' hp' F' G', T al' hp' ∧ DInvU C ops tm hp' con al' listed a w ok F' G' ∧ al'.map (fun x => (x.1, x.2.1)) = al.map (fun x => (x.1, x.2.1))
  | [], al, hp, F, G, h, hi, _, _ => ⟨al, hp, F, G, h, hi, rfl⟩
  | j :: os, al, hp, F, G, h, hi, hn, hl => by
    obtain ⟨v, hv, h⟩ := h
    obtain ⟨v', rows, o1, hi'⟩ := hi.open1 hn hv (hl j (List.mem_cons_self ..))
    obtain ⟨al', hp', F', G', q1, q2, q3⟩ := DInvU.opens os _ _ _ _ (h v' rows o1) hi' (by rw [map_idx (setD_map j v' al)]; exact hn) (fun i hi => hl i (List.mem_cons_of_mem _ hi))
    exact ⟨al', hp', F', G', q1, q2, q3.trans (setD_map j v' al)⟩
theorem DInvU.more {al : Ents} {listed : Array Bool} {a : Act} {w : World} {ok : Nat → Prop} {F : List Nat} {G : Nat → List Nat} (h : DInvU C ops tm hp con al listed a w ok F G) {x : Nat × Nat × AV} (hx : listed[x.1]? ≠ some true) : DInvU C ops tm hp con (x :: al) listed a w ok F G :=
  { rel := h.rel, size := h.size, closed := h.closed, olds := h.olds,
    vals := fun e he hl => by
      rcases List.mem_cons.1 he with rfl | he
      · exact (hx hl.1).elim
      · exact h.vals e he hl
    pls := fun e he hl => by
      rcases List.mem_cons.1 he with rfl | he
      · exact (hx hl).elim
      · exact h.pls e he hl
    disj := fun e he e' he' hl hl' => by
      rcases List.mem_cons.1 he with rfl | he
      · exact (hx hl.1).elim
      · rcases List.mem_cons.1 he' with rfl | he'
        · exact (hx hl'.1).elim
        · exact h.disj e he e' he' hl hl' }
theorem DInvU.spine {al : Ents} {listed : Array Bool} {a : Act} {w : World} {ok : Nat → Prop} {F : List Nat} {G : Nat → List Nat} (h : DInvU C ops tm hp con al listed a w ok F G) (hdif : difD ops = true)
    (hal : ∀ x ∈ al, ∃ o, ops[x.1]? = some o ∧ o.dst = some x.2.1) {e : Nat} (hnl : ∀ x ∈ al, x.1 ≠ e) {o : Oper} (ho : ops[e]? = some o) (hdn : ∀ d, o.dst = some d → d < C.nt) (hb : ∀ j ∈ befs o, listed[j]? = some true) (hk : listed[e]? ≠ some true) {R : List Nat} (hR : ∀ j ∈ R, listed[j]? = some true)
    {Kn : Ents → St → Prop} (hA : ∀ w1 ok1 F1, AOps P (C.re w1 ok1 F1) ops.toArray [o] (fun s' => ∃ done2, DPost o.dst e s'.tm al done2 ∧ Kn done2 s') ⟨spT ops tm e R al, hp⟩) {Q : Exit → Act → World → Prop} {Kw : Act → World → Prop}
    (hK : ∀ a' w' ok' F' G' done2 s', DInvU C ops tm s'.hp con done2 (listed.setIfInBounds e true) a' w' ok' F' G' → DPost o.dst e s'.tm al done2 → Kn done2 s' → Kw a' w') : wpOp P ops.toArray Q e Kw a w := by
  have hlen : e < ops.length := (List.getElem?_eq_some_iff.1 ho).1
  have hbef : bef ops e = befs o := by unfold bef; rw [ho]
  have hr : RelX C ⟨spT ops tm e R al, hp⟩ a w ok F := h.rstG hk hR
  have hksz : e < listed.size := by rw [h.size]; exact hlen
  have hset : ∀ j : Nat, (listed.setIfInBounds e true)[j]? = some true ↔ (j = e ∨ listed[j]? = some true) := by
    intro j
    rw [Array.getElem?_setIfInBounds]
    by_cases q : e = j
    · subst q; simp [hksz]
    · rw [if_neg q]
      constructor
      · exact .inr
      · rintro (q' | q')
        · exact absurd q'.symm q
        · exact q'
  have lives : ∀ j : Nat, j ≠ e → liveU con (listed.setIfInBounds e true) j → liveU con listed j := fun j hj hl => ⟨((hset j).1 hl.1).resolve_left hj, fun m hm hl2 => hl.2 m hm ((hset m).2 (.inr hl2))⟩
  have hfin : ∀ a' w', (∃ s', Rel (C.re w ok F) s' a' w' ∧ ∃ done2, DPost o.dst e s'.tm al done2 ∧ Kn done2 s') → (a'.defers = [] → ∃ cv, a' = a.put o.dst cv) → Kw a' w' := by
    rintro a' w' ⟨s', ⟨ok', F', hr'⟩, done2, hp2, hk2⟩ hput
    obtain ⟨cv, rfl⟩ := hput hr'.defers
    have same : ∀ t, o.dst ≠ some t → (a.put o.dst cv).tmps.getD t undef = a.tmps.getD t undef := by
      intro t ht
      cases hd : o.dst with
      | none => rfl
      | some d => exact getD_put_ne fun e' => ht (by rw [hd, e'])
    have hre := hr.unre hr'
    -- each entry that was there
    have old : ∀ x ∈ al, liveU con (listed.setIfInBounds e true) x.1 → RepV w' ok' x.2.2 ((a.put o.dst cv).tmps.getD x.2.1 undef) (G x.1) ∧ OwnU C w' ok' F' (G x.1) := by
      intro x hx hl
      obtain ⟨q1, q2⟩ := h.vals x hx (lives x.1 (hnl x hx) hl)
      obtain ⟨k1, k2⟩ := hr.beside hr' q2
      rw [same x.2.1 fun hd => hnl x hx (by obtain ⟨o', g1, g2⟩ := hal x hx; exact difD_at hdif g1 ho g2 hd)]
      exact ⟨q1.keep k1, k2⟩
    have kp : ∀ x ∈ al, (listed.setIfInBounds e true)[x.1]? = some true → plainV x.2.2 = true → RepV w' ok' x.2.2 ((a.put o.dst cv).tmps.getD x.2.1 undef) [] := by
      intro x hx hl hpl
      obtain ⟨k1, k2⟩ := hr.beside hr' (G := []) ⟨List.nodup_nil, by simp⟩
      rw [same x.2.1 fun hd => hnl x hx (by obtain ⟨o', g1, g2⟩ := hal x hx; exact difD_at hdif g1 ho g2 hd)]
      exact (h.pls x hx (((hset x.1).1 hl).resolve_left (hnl x hx)) hpl).keep k1
    have dj : ∀ x ∈ al, ∀ y ∈ al, liveU con (listed.setIfInBounds e true) x.1 → liveU con (listed.setIfInBounds e true) y.1 → x.1 ≠ y.1 → ∀ b ∈ G x.1, b ∉ G y.1 := fun x hx y hy h1 h2 => h.disj x hx y hy (lives x.1 (hnl x hx) h1) (lives y.1 (hnl y hy) h2)
    have rel0 : RelX C ⟨[], s'.hp⟩ (a.put o.dst cv) w' ok' F' := { hre with tm := fun t u ht => by simp [look] at ht }
    have cl : ∀ (i : Nat) (o' : Oper), (listed.setIfInBounds e true)[i]? = some true → ops[i]? = some o' → ∀ j ∈ befs o', (listed.setIfInBounds e true)[j]? = some true := by
      intro i o' hi ho' j hj
      rw [hset] at hi ⊢
      rcases hi with rfl | hi
      · rw [ho] at ho'; cases ho'; exact .inr (hb j hj)
      · exact .inr (h.closed i o' hi ho' j hj)
    have od : ∀ (t : Nat) (v : AV), look tm t = some v → (∀ (j : Nat) (o' : Oper), (listed.setIfInBounds e true)[j]? = some true → ops[j]? = some o' → o'.dst ≠ some t) → RepV w' ok' v ((a.put o.dst cv).tmps.getD t undef) [] := by
      intro t v ht hno
      obtain ⟨k1, k2⟩ := hr.beside hr' (G := []) ⟨List.nodup_nil, by simp⟩
      rw [same t (hno e o ((hset e).2 (.inl rfl)) ho)]
      exact (h.olds t v ht fun j o' hj ho' => hno j o' ((hset j).2 (.inr hj)) ho').keep k1
    generalize a.put o.dst cv = a2 at *
    cases hd : o.dst with
    | none =>
      rw [hd] at hp2
      have e2 : done2 = al := hp2
      subst e2
      exact hK _ w' ok' F' G _ s' ⟨rel0, by simp [h.size], cl, old, kp, dj, od⟩ (by rw [hd]; exact rfl) hk2
    | some d =>
      rw [hd] at hp2
      obtain ⟨v, h1, rfl⟩ := hp2
      have hv : RepV w' ok' v (a2.tmps.getD d undef) [] := hre.tm d v h1
      refine hK _ w' ok' F' (fun i => if i = e then [] else G i) _ s' ⟨rel0, by simp [h.size], cl, ?_, ?_, ?_, od⟩ (by rw [hd]; exact ⟨v, h1, rfl⟩) hk2
      · intro x hx hl
        rcases List.mem_cons.1 hx with rfl | hx
        · rw [if_pos rfl]; exact ⟨hv, List.nodup_nil, by simp⟩
        · rw [if_neg (hnl x hx)]; exact old x hx hl
      · intro x hx hl hpl
        rcases List.mem_cons.1 hx with rfl | hx
        · exact hv
        · exact kp x hx hl hpl
      · intro x hx y hy hlx hly hne b hbx hby
        rcases List.mem_cons.1 hx with rfl | hx
        · simp at hbx
        · rw [if_neg (hnl x hx)] at hbx
          rcases List.mem_cons.1 hy with rfl | hy
          · simp at hby
          · rw [if_neg (hnl y hy)] at hby
            exact dj x hx y hy hlx hly hne b hbx hby
  let Q0 : Exit → Act → World → Prop := fun ex a' w' => match ex with
    | .normal => ∃ s', Rel (C.re w ok F) s' a' w' ∧ ∃ done2, DPost o.dst e s'.tm al done2 ∧ Kn done2 s'
    | ex => Q ex a' w'
  have hl := hA w ok F Q0 a w (fun s' a' w' h1 h2 => ⟨s', h1, h2⟩) ⟨ok, F, hr.re⟩
  have ho' : ops.toArray[e]? = some o := by simpa using ho
  unfold wpOp
  rw [ho']
  simp only
  unfold wpList at hl
  split at hl
  · rename_i hw
    rw [if_pos hw]
    refine hl.imp (fun h1 => ?_) (fun h1 => ⟨h1.1, ?_⟩)
    · exact Oper.wp_mono (fun a' w' h2 => hfin a' w' h2.1 h2.2) (Oper.wp_monoQ (Q := Q0) (fun c a w h => h) (fun ⟨a, w, h⟩ => ⟨a, w, h⟩) (Oper.wp_putd h1))
    · obtain ⟨a1, w1, h2⟩ := h1.2; exact ⟨a1, w1, h2⟩
  · rename_i hw
    rw [if_neg hw]
    exact hfin _ _ hl fun _ => ⟨_, rfl⟩
theorem anyM_of {Q : Exit → Act → World → Prop} (hdif : difD ops = true) (hback : backB 0 ops = true) (hcon : conU con = true) (hQ : ∀ s a w, Rel C s a w → K s → Q .normal a w) :
    ∀ (plan : List Item) (al : Ents) (hp : Hp) (fuel : Nat) (listed : Array Bool) (a : Act) (w : World) (ok : Nat → Prop) (F : List Nat) (G : Nat → List Nat), planOk ops con plan = true → (plan.map Item.idx).Nodup → (∀ i ∈ plan.map Item.idx, listed[i]? ≠ some true) → (∀ x ∈ al, x.1 ∉ plan.map Item.idx) →
      (∀ i, i < ops.length → listed[i]? = some true ∨ i ∈ al.map (·.1) ∨ i ∈ plan.map Item.idx) → (∀ x ∈ al, ∃ o, ops[x.1]? = some o ∧ o.dst = some x.2.1) → (al.map (·.1)).Nodup →
      (∀ x ∈ al, listed[x.1]? ≠ some true → ∃ dn o, (∀ y ∈ dn, y ∈ al) ∧ (dn.map (·.1)).Nodup ∧ ops[x.1]? = some o ∧ o.dst = some x.2.1 ∧ x.2.1 < C.nt ∧ ((usesL con x.1 dn).all fun e => memN e.1 (befs o)) = true ∧
        DGoodU P C ops.toArray ⟨rstP (befs o) dn ++ rstT ops x.1 tm, hp⟩ ((usesL con x.1 dn).map fun e => (e.2.1, e.2.2)) o x.2.2) →
      left listed ≤ fuel → DInvU C ops tm hp con al listed a w ok F G → DM P C ops tm con K plan al hp → wpAny P .any ops.toArray Q fuel listed a w
  | [], al, hp, fuel, listed, a, w, ok, F, G, hpl, hpn, hun, hsep, hcov, hal, huni, hgood, hf, hi, hd => by
    have done : ∀ (listed : Array Bool) (a : Act) (w : World) (ok : Nat → Prop) (F : List Nat) (G : Nat → List Nat), DInvU C ops tm hp con al listed a w ok F G → Region.ready .any ops.toArray listed = [] → Q .normal a w := by
      intro listed a w ok F G h hr
      have hall := all_listed h.size hback hr
      have hr0 : RelX C ⟨rstW ops tm, hp⟩ a w ok F := by
        refine { h.rel with tm := fun t v ht => ?_ }
        obtain ⟨h1, h2⟩ := look_rstW ht
        exact h.olds t v h2 fun j o hj ho hd => noD_at h1 o (List.mem_of_getElem? ho) hd
      have live : ∀ e ∈ al, goneB e.1 con = false → liveU con listed e.1 := by
        intro e he hg
        obtain ⟨o, g1, g2⟩ := hal e he
        refine ⟨hall e.1 (List.getElem?_eq_some_iff.1 g1).1, fun m hm => ?_⟩
        rw [conOf_gone hm] at hg; cases hg
      obtain ⟨s', F', r1, r2⟩ := fin_rel (G := G) al ⟨rstW ops tm, hp⟩ F hr0 huni (fun e he hg => h.vals e he (live e he hg)) (fun e he e' he' hne hg hg' => h.disj e he e' he' (live e he hg) (live e' he' hg') hne) hd
      exact hQ s' a w ⟨ok, F', r1⟩ r2
    clear hun
    induction fuel generalizing listed a w ok F G with
    | zero =>
      have hnil : Region.ready .any ops.toArray listed = [] := by
        cases hr : Region.ready .any ops.toArray listed with
        | nil => rfl
        | cons i r =>
          exfalso
          obtain ⟨o, ho, h2, h3⟩ := (ready_iff hi.size).1 (by rw [hr]; exact List.mem_cons_self ..)
          have := left_set (by rw [hi.size]; exact (List.getElem?_eq_some_iff.1 ho).1) h2
          omega
      exact ⟨hnil, done listed a w ok F G hi hnil⟩
    | succ fuel ih =>
      refine ⟨done listed a w ok F G hi, fun i hir => ?_⟩
      obtain ⟨o, ho, h2, h3⟩ := (ready_iff hi.size).1 hir
      have hil := (List.getElem?_eq_some_iff.1 ho).1
      rcases hcov i hil with q | q | q
      · exact (h2 q).elim
      · obtain ⟨x, hx, rfl⟩ := List.mem_map.1 q
        obtain ⟨dn, o', e4, e5, e1, e2, e3, e6, e7⟩ := hgood x hx h2
        rw [ho] at e1; cases e1
        refine hi.step hdif hcon hal huni ho e2 e3 hx h3 h2 e4 e5 e6 e7 fun a' w' ok' G' h' => ?_
        have hleft := left_set (by rw [hi.size]; exact hil) h2
        have hset : ∀ j : Nat, listed[j]? = some true → (listed.setIfInBounds x.1 true)[j]? = some true := by
          intro j hj
          rw [Array.getElem?_setIfInBounds]
          split
          · rename_i e; subst e; simp [hi.size, hil]
          · exact hj
        exact ih _ a' w' ok' F G' (fun i hi => (hcov i hi).imp (hset i) id) (fun y hy hny => hgood y hy fun hh => hny (hset _ hh)) (by omega) h'
      · simp at q
  | .pure j :: r, al, hp, fuel, listed, a, w, ok, F, G, hpl, hpn, hun, hsep, hcov, hal, huni, hgood, hf, hi, hd => by
    obtain ⟨d, v, ⟨o, g1, g2, g3, g4, g5⟩, hd⟩ := hd
    simp only [List.map_cons, Item.idx, List.nodup_cons] at hpn
    have hj : listed[j]? ≠ some true := hun j (by simp [Item.idx])
    refine anyM_of hdif hback hcon hQ r ((j, d, v) :: al) hp fuel listed a w ok F G (by simpa [planOk] using hpl) hpn.2 (fun i hi => hun i (by simp only [List.map_cons]; exact List.mem_cons_of_mem _ hi)) (fun x hx => ?_) (fun i hi => ?_) (fun x hx => ?_) ?_ (fun x hx hnx => ?_) hf (hi.more hj) hd
    · rcases List.mem_cons.1 hx with rfl | hx
      · exact hpn.1
      · exact fun hh => hsep x hx (by simp only [List.map_cons]; exact List.mem_cons_of_mem _ hh)
    · rcases hcov i hi with q | q | q
      · exact .inl q
      · exact .inr (.inl (by simp only [List.map_cons]; exact List.mem_cons_of_mem _ q))
      · simp only [List.map_cons, Item.idx] at q
        rcases List.mem_cons.1 q with rfl | q
        · exact .inr (.inl (by simp))
        · exact .inr (.inr q)
    · rcases List.mem_cons.1 hx with rfl | hx
      · exact ⟨o, g1, g2⟩
      · exact hal x hx
    · simp only [List.map_cons, List.nodup_cons]
      refine ⟨fun hh => ?_, huni⟩
      obtain ⟨y, hy, e⟩ := List.mem_map.1 hh
      exact hsep y hy (by rw [e]; simp [Item.idx])
    · rcases List.mem_cons.1 hx with rfl | hx
      · exact ⟨al, o, fun y hy => List.mem_cons_of_mem _ hy, huni, g1, g2, g3, g4, g5⟩
      · obtain ⟨dn, o', e1, e2⟩ := hgood x hx hnx
        exact ⟨dn, o', fun y hy => List.mem_cons_of_mem _ (e1 y hy), e2⟩
  | .spine e os R :: r, al, hp, fuel, listed, a, w, ok, F, G, hpl, hpn, hun, hsep, hcov, hal, huni, hgood, hf, hi, hd => by
    obtain ⟨oe, hoe, hdn, hd⟩ := hd
    simp only [planOk, Bool.and_eq_true, List.all_eq_true, Bool.not_eq_true'] at hpl
    obtain ⟨⟨⟨hp1, hpR⟩, hp2⟩, hp3⟩ := hpl
    simp only [List.map_cons, Item.idx, List.nodup_cons] at hpn
    have he : listed[e]? ≠ some true := hun e (by simp [Item.idx])
    have hlen : e < ops.length := (List.getElem?_eq_some_iff.1 hoe).1
    clear hun
    induction fuel generalizing listed a w ok F G with
    | zero =>
      have := left_pos (by rw [hi.size]; exact hlen) he
      omega
    | succ fuel ih =>
      refine ⟨fun hnil => absurd (all_listed hi.size hback hnil e hlen) he, fun i hir => ?_⟩
      obtain ⟨o, ho, h2, h3⟩ := (ready_iff hi.size).1 hir
      have hil := (List.getElem?_eq_some_iff.1 ho).1
      have hset : ∀ (i j : Nat), i < ops.length → ((listed.setIfInBounds i true)[j]? = some true ↔ (j = i ∨ listed[j]? = some true)) := by
        intro i j hil
        rw [Array.getElem?_setIfInBounds]
        by_cases q : i = j
        · subst q; simp [hi.size, hil]
        · rw [if_neg q]
          constructor
          · exact .inr
          · rintro (q' | q')
            · exact absurd q'.symm q
            · exact q'
      have hleft := left_set (by rw [hi.size]; exact hil) h2
      rcases hcov i hil with q | q | q
      · exact (h2 q).elim
      · -- one that was told already
        obtain ⟨x, hx, rfl⟩ := List.mem_map.1 q
        obtain ⟨dn, o', e4, e5, e1, e2, e3, e6, e7⟩ := hgood x hx h2
        rw [ho] at e1; cases e1
        refine hi.step hdif hcon hal huni ho e2 e3 hx h3 h2 e4 e5 e6 e7 fun a' w' ok' G' h' => ?_
        refine ih (listed.setIfInBounds x.1 true) a' w' ok' F G' (fun i hi => (hcov i hi).imp (fun z => (hset x.1 i hil).2 (.inr z)) id) (fun y hy hny => hgood y hy fun hh => hny ((hset x.1 y.1 hil).2 (.inr hh))) (by omega) h' (fun hh => ?_)
        rcases (hset x.1 e hil).1 hh with z | z
        · exact hsep x hx (by rw [← z]; simp [Item.idx])
        · exact he z
      · simp only [List.map_cons, Item.idx] at q
        rcases List.mem_cons.1 q with rfl | q
        · -- the operation of the chain itself
          rw [hoe] at ho; cases ho
          have hbef : bef ops i = befs oe := by unfold bef; rw [hoe]
          have hrl : ∀ j ∈ rch ops i, listed[j]? = some true := rchGo_listed hi.closed i _ (by rw [hbef]; exact h3)
          have hRl : ∀ j ∈ R, listed[j]? = some true := fun j hj => hrl j (memN_iff.1 (hpR j hj))
          obtain ⟨al', hp', F', G', t1, t2, t3⟩ := DInvU.opens os al hp F G hd hi huni (fun j hj => by
            obtain ⟨z1, z2⟩ := hp2 j hj
            refine ⟨hRl j (memN_iff.1 z1), fun k hk => ?_⟩
            rw [conOf_gone hk] at z2; cases z2)
          have hm1 := map_idx t3
          have hal' : ∀ x ∈ al', ∃ o, ops[x.1]? = some o ∧ o.dst = some x.2.1 := fun x hx => by
            obtain ⟨u, hu⟩ := map_at t3 x hx
            have := hal _ hu
            exact this
          have hne' : ∀ x ∈ al', x.1 ≠ i := fun x hx hh => by
            obtain ⟨u, hu⟩ := map_at t3 x hx
            exact hsep _ hu (by simp only [hh]; simp [Item.idx])
          refine t2.spine (Kn := fun done2 s' => Stab (GoodX P C ops tm con done2 s'.hp) (i :: R) done2 ∧ DM P C ops tm con K r done2 s'.hp) hdif hal' hne' hoe hdn h3 h2 hRl t1 fun a' w' ok' F2 G2 done2 s' hi2 hpost hk2 => ?_
          have hmap : ∀ x ∈ done2, x.1 = i ∧ oe.dst = some x.2.1 ∨ x ∈ al' := by
            intro x hx
            unfold DPost at hpost
            cases hd : oe.dst with
            | none => rw [hd] at hpost; have e2 : done2 = al' := hpost; subst e2; exact .inr hx
            | some d =>
              rw [hd] at hpost
              obtain ⟨v, _, rfl⟩ := hpost
              rcases List.mem_cons.1 hx with rfl | hx
              · exact .inl ⟨rfl, rfl⟩
              · exact .inr hx
          have hsub : ∀ x ∈ al', x ∈ done2 := by
            intro x hx
            unfold DPost at hpost
            cases hd : oe.dst with
            | none => rw [hd] at hpost; have e2 : done2 = al' := hpost; subst e2; exact hx
            | some d => rw [hd] at hpost; obtain ⟨v, _, rfl⟩ := hpost; exact List.mem_cons_of_mem _ hx
          have huni2 : (done2.map (·.1)).Nodup := by
            unfold DPost at hpost
            cases hd : oe.dst with
            | none => rw [hd] at hpost; have e2 : done2 = al' := hpost; rw [e2, hm1]; exact huni
            | some d =>
              rw [hd] at hpost
              obtain ⟨v, _, rfl⟩ := hpost
              simp only [List.map_cons, List.nodup_cons]
              refine ⟨fun hh => ?_, by rw [hm1]; exact huni⟩
              obtain ⟨y, hy, e⟩ := List.mem_map.1 hh
              exact hne' y hy e
          refine anyM_of hdif hback hcon hQ r done2 s'.hp fuel _ a' w' ok' F2 G2 hp3 hpn.2 (fun k hk hh => ?_) (fun x hx hh => ?_) (fun k hk => ?_) (fun x hx => ?_) huni2 (fun x hx hnx => ?_) (by omega) hi2 hk2.2
          · rcases (hset i k hil).1 hh with z | z
            · subst z; exact hpn.1 hk
            · obtain ⟨y, hy, e⟩ := List.mem_map.1 hk
              have hek := memN_iff.1 (hp1 y hy)
              rw [e] at hek
              have hz := rchGo_listed hi.closed k (bef ops k) (bef_listed hi.closed z)
              exact h2 (hz i hek)
          · rcases hmap x hx with ⟨z, _⟩ | z
            · rw [z] at hh; exact hpn.1 hh
            · obtain ⟨u, hu⟩ := map_at t3 x z
              exact hsep _ hu (by simp only [List.map_cons]; exact List.mem_cons_of_mem _ hh)
          · rcases hcov k hk with z | z | z
            · exact .inl ((hset i k hil).2 (.inr z))
            · refine .inr (.inl ?_)
              rw [← hm1] at z
              obtain ⟨y, hy, e⟩ := List.mem_map.1 z
              exact List.mem_map.2 ⟨y, hsub y hy, e⟩
            · simp only [List.map_cons, Item.idx] at z
              rcases List.mem_cons.1 z with rfl | z
              · exact .inl ((hset k k hil).2 (.inl rfl))
              · exact .inr (.inr z)
          · rcases hmap x hx with ⟨z1, z2⟩ | z
            · exact ⟨oe, by rw [z1]; exact hoe, z2⟩
            · exact hal' x z
          · have hxn : x.1 ∉ i :: R := fun hh => by
              rcases List.mem_cons.1 hh with z | z
              · exact hnx ((hset i x.1 hil).2 (.inl z))
              · exact hnx ((hset i x.1 hil).2 (.inr (hRl _ z)))
            obtain ⟨o, z1, z2, z3, z4, z5⟩ := stab_at hk2.1 x hx hxn
            exact ⟨done2, o, fun _ h => h, huni2, z1, z2, z3, z4, z5⟩
        · -- none of those that come later
          exfalso
          obtain ⟨y, hy, rfl⟩ := List.mem_map.1 q
          have hbef : bef ops y.idx = befs o := by unfold bef; rw [ho]
          exact he (rchGo_listed hi.closed y.idx _ (by rw [hbef]; exact h3) e (memN_iff.1 (hp1 y hy)))
end
theorem AWP.drawnM {P : Program} {C : Ctx} {Q : Exit → St → Prop} {id : Nat} {ops : List Oper} {tm : List (Nat × AV)} {hp : List (Option Nat × Row)} (con : List (Nat × Nat)) (plan : List Item) (hm : P.follows .mixedOrders = true) (hdif : difD ops = true) (hback : backB 0 ops = true) (hcon : conU con = true)
    (hplan : planOk ops con plan = true) (hcov : coverB ops.length plan = true) (h : DM P C ops tm con (fun s' => Q .normal s') plan [] hp) : AWP P C (.region id ops.toArray true) Q ⟨tm, hp⟩ := by
  intro R a w hR ⟨ok, F, hr⟩
  refine wp_region_any hm ?_
  simp only [coverB, Bool.and_eq_true, List.all_eq_true] at hcov
  have hno : ∀ i : Nat, (Array.replicate ops.toArray.size false)[i]? ≠ some true := by
    intro i e
    rw [Array.getElem?_replicate] at e
    split at e <;> simp at e
  refine anyM_of (tm := tm) (K := fun s' => Q .normal s') hdif hback hcon (fun s a' w' hr' hk => hR _ _ _ _ hr' hk) plan [] hp _ _ _ _ ok F (fun _ => []) hplan (nodupN_spec hcov.2) (fun i _ => hno i) (by simp) (fun i hi => .inr (.inr (memN_iff.1 (hcov.1 i (List.mem_range.2 hi))))) (by simp) List.nodup_nil (by simp) ?_ ?_ h
  · unfold left
    refine Nat.le_trans (List.length_filter_le _ _) ?_
    simp
  · exact ⟨{ hr.drew with tm := fun t v ht => by simp [look] at ht }, by simp, fun (i : Nat) o hi => absurd hi (hno i), fun e _ hl => absurd hl.1 (hno e.1), fun e _ hl => absurd hl (hno e.1), fun e _ e' _ hl => absurd hl.1 (hno e.1), fun t v ht _ => hr.drew.tm t v ht⟩
section
variable {P : Program} {C : Ctx} {ops : List Oper} {tm : List (Nat × AV)} {hp : Hp} {con : List (Nat × Nat)} {K : St → Prop} {k : Nat} {done : Ents} {r : List Item}
theorem GX {tm' : List (Nat × AV)} {d : Nat} {op : Op} {ty : TypeId} {pos : String} {after : Array Edge} {v : AV} (ho : ops[k]? = some ⟨some d, op, ty, pos, after, none⟩) (hs : subT (rstP (befs ⟨some d, op, ty, pos, after, none⟩) done ++ rstT ops k tm) tm') (hu : usesL con k done = [])
    (hv : DStep P C ⟨tm', hp⟩ ⟨some d, op, ty, pos, after, none⟩ v) (hd : Nat.blt d C.nt = true) : GoodX P C ops tm con done hp (k, d, v) :=
  ⟨_, ho, rfl, by simpa using hd, by rw [hu]; rfl, by rw [hu]; exact (DStep.u (DStep.sub hs hv))⟩
theorem GXs {tm' us : List (Nat × AV)} {d : Nat} {op : Op} {ty : TypeId} {pos : String} {after : Array Edge} {v : AV} (ho : ops[k]? = some ⟨some d, op, ty, pos, after, none⟩) (hs : subT (rstP (befs ⟨some d, op, ty, pos, after, none⟩) done ++ rstT ops k tm) tm') (hu : ((usesL con k done).map fun e => (e.2.1, e.2.2)) = us)
    (hb : ((usesL con k done).all fun e => memN e.1 (befs ⟨some d, op, ty, pos, after, none⟩)) = true) (hv : DStepU P C ⟨tm', hp⟩ us ⟨some d, op, ty, pos, after, none⟩ v) (hd : Nat.blt d C.nt = true) : GoodX P C ops tm con done hp (k, d, v) :=
  ⟨_, ho, rfl, by simpa using hd, hb, by rw [hu]; exact DStepU.sub hs hv⟩
theorem GX.on {tm' : List (Nat × AV)} {d : Nat} {op : Op} {ty : TypeId} {pos : String} {after : Array Edge} {v : AV} {j t : Nat} {b : Bool} (ht : guardT ops.toArray j = some t) (hl : look (rstP (befs ⟨some d, op, ty, pos, after, some (j, b)⟩) done ++ rstT ops k tm) t = some (.val (.bool b)))
    (ho : ops[k]? = some ⟨some d, op, ty, pos, after, some (j, b)⟩) (hs : subT (rstP (befs ⟨some d, op, ty, pos, after, some (j, b)⟩) done ++ rstT ops k tm) tm') (hu : usesL con k done = [])
    (hv : DStep P C ⟨tm', hp⟩ ⟨some d, op, ty, pos, after, none⟩ v) (hd : Nat.blt d C.nt = true) : GoodX P C ops tm con done hp (k, d, v) :=
  ⟨_, ho, rfl, by simpa using hd, by rw [hu]; rfl, by rw [hu]; exact ⟨t, ht, .inl ⟨b, hl, .inl ⟨rfl, (DStep.u (DStep.sub hs hv))⟩⟩⟩⟩
theorem GX.off {d : Nat} {op : Op} {ty : TypeId} {pos : String} {after : Array Edge} {j t : Nat} {b want : Bool} (ht : guardT ops.toArray j = some t) (hl : look (rstP (befs ⟨some d, op, ty, pos, after, some (j, want)⟩) done ++ rstT ops k tm) t = some (.val (.bool b))) (hne : (b == want) = false)
    (ho : ops[k]? = some ⟨some d, op, ty, pos, after, some (j, want)⟩) (hu : usesL con k done = []) (hd : Nat.blt d C.nt = true) : GoodX P C ops tm con done hp (k, d, .tup []) :=
  ⟨_, ho, rfl, by simpa using hd, by rw [hu]; rfl, ⟨t, ht, .inl ⟨b, hl, .inr ⟨hne, rfl⟩⟩⟩⟩
theorem GX.offU {d : Nat} {op : Op} {ty : TypeId} {pos : String} {after : Array Edge} {j t : Nat} {want : Bool} (ht : guardT ops.toArray j = some t) (hl : look (rstP (befs ⟨some d, op, ty, pos, after, some (j, want)⟩) done ++ rstT ops k tm) t = some (.tup []))
    (ho : ops[k]? = some ⟨some d, op, ty, pos, after, some (j, want)⟩) (hu : usesL con k done = []) (hd : Nat.blt d C.nt = true) : GoodX P C ops tm con done hp (k, d, .tup []) :=
  ⟨_, ho, rfl, by simpa using hd, by rw [hu]; rfl, ⟨t, ht, .inr ⟨hl, rfl⟩⟩⟩
theorem DM.pure {d : Nat} {v : AV} (h : GoodX P C ops tm con done hp (k, d, v)) (h2 : DM P C ops tm con K r ((k, d, v) :: done) hp) : DM P C ops tm con K (.pure k :: r) done hp := ⟨d, v, h, h2⟩
theorem DM.nil (h : DFin con K done ⟨rstW ops tm, hp⟩) : DM P C ops tm con K [] done hp := h
theorem DM.split {b : Bool} (i : Nat) (hl : valD i done = some (.val (.bool b)))
    (h1 : b = true → DM P C ops tm con K r (setD i (.val (.bool true)) done) hp) (h2 : b = false → DM P C ops tm con K r (setD i (.val (.bool false)) done) hp) : DM P C ops tm con K r done hp := by
  cases b with
  | true => have := h1 rfl; rwa [setD_same hl] at this
  | false => have := h2 rfl; rwa [setD_same hl] at this
def dstB (n : Nat) (o : Oper) : Bool := match o.dst with | some d => Nat.blt d n | none => true
def SpK (P : Program) (C : Ctx) (ops : List Oper) (tm : List (Nat × AV)) (con : List (Nat × Nat)) (K : St → Prop) (r : List Item) (dst : Option Nat) (e : Nat) (R : List Nat) (done' : Ents) (s' : St) : Prop :=
  ∃ done2, DPost dst e s'.tm done' done2 ∧ Stab (GoodX P C ops tm con done2 s'.hp) (e :: R) done2 ∧ DM P C ops tm con K r done2 s'.hp
theorem DM.sp {e : Nat} {os R : List Nat} {o : Oper} (ho : ops[e]? = some o) (hd : dstB C.nt o = true) (h : DOpen (fun done' hp' => ∀ w1 ok1 F1, AOps P (C.re w1 ok1 F1) ops.toArray [o] (SpK P C ops tm con K r o.dst e R done') ⟨spT ops tm e R done', hp'⟩) os done hp) :
    DM P C ops tm con K (.spine e os R :: r) done hp := ⟨o, ho, fun d he => by unfold dstB at hd; rw [he] at hd; simpa using hd, h⟩
theorem DOpen.nil {T : Ents → Hp → Prop} {l : Ents} (h : T l hp) : DOpen T [] l hp := h
theorem DOpen.own {T : Ents → Hp → Prop} {l : Ents} {j n : Nat} {os : List Nat} {xs sp : List AV} (hv : valD j l = some (.own n xs sp)) (h : ∀ B, DOpen T os (setD j (.loc B 0 xs.length (xs.length + sp.length) n) l) ((B, ⟨n, xs ++ sp⟩) :: hp)) : DOpen T (j :: os) l hp := ⟨_, hv, fun v' rows ho => by
  cases ho with
  | plain _ h => simp [plainV] at h
  | own _ _ _ B => exact h B⟩
theorem DOpen.optr {T : Ents → Hp → Prop} {l : Ents} {j n i f : Nat} {os : List Nat} {xs : List AV} (hv : valD j l = some (.optr n xs i f)) (h : ∀ b : Nat, DOpen T os (setD j (.ptr (some b) i f n) l) ((some b, ⟨n, xs⟩) :: hp)) : DOpen T (j :: os) l hp := ⟨_, hv, fun v' rows ho => by
  cases ho with
  | plain _ h => simp [plainV] at h
  | optr _ _ _ _ b => exact h b⟩
theorem SpK.mk {dst : Option Nat} {e : Nat} {R : List Nat} {done' : Ents} {d : Nat} {v : AV} {tm1 : List (Nat × AV)} {hp1 : Hp} (h1 : dst = some d) (h2 : look tm1 d = some v) (hst : Stab (GoodX P C ops tm con ((e, d, v) :: done') hp1) (e :: R) ((e, d, v) :: done')) (h : DM P C ops tm con K r ((e, d, v) :: done') hp1) :
    SpK P C ops tm con K r dst e R done' ⟨tm1, hp1⟩ := ⟨_, by rw [h1]; exact ⟨v, h2, rfl⟩, hst, h⟩
theorem SpK.mk0 {e : Nat} {R : List Nat} {done' : Ents} {tm1 : List (Nat × AV)} {hp1 : Hp} (hst : Stab (GoodX P C ops tm con done' hp1) (e :: R) done') (h : DM P C ops tm con K r done' hp1) :
    SpK P C ops tm con K r none e R done' ⟨tm1, hp1⟩ := ⟨_, rfl, hst, h⟩
theorem Stab.all {G : Nat × Nat × AV → Prop} {l : List Nat} : ∀ {d : Ents}, (d.all fun x => memN x.1 l) = true → Stab G l d
  | [], _ => trivial
  | x :: d, h => by
    simp only [List.all_cons, Bool.and_eq_true] at h
    simp only [Stab, h.1, cond_true]
    exact Stab.all h.2
theorem Stab.skip {G : Nat × Nat × AV → Prop} {l : List Nat} {x : Nat × Nat × AV} {d : Ents} (hx : memN x.1 l = true) (h : Stab G l d) : Stab G l (x :: d) := by simp only [Stab, hx, cond_true]; exact h
theorem Stab.keep {G : Nat × Nat × AV → Prop} {l : List Nat} {x : Nat × Nat × AV} {d : Ents} (hx : G x) (h : Stab G l d) : Stab G l (x :: d) := by
  simp only [Stab]
  cases memN x.1 l with
  | true => exact h
  | false => exact ⟨hx, h⟩
theorem AOps.subT {oa : Array Oper} {l : List Oper} {T : St → Prop} {tm1 tm' : List (Nat × AV)} (hs : subT tm1 tm') (h : AOps P C oa l T ⟨tm', hp⟩) : AOps P C oa l T ⟨tm1, hp⟩ := fun Q a w hQ ⟨ok, F, hr⟩ => h Q a w hQ ⟨ok, F, { hr with tm := fun t u ht => hr.tm t u (look_sub hs t u ht) }⟩
end
theorem DStepU.alloc {P : Program} {C : Ctx} {s : St} {d : Option Tmp} {T n : Nat} {ty : TypeId} {pos : String} {after : Array Edge} {g : Option (Nat × Bool)} {z : Value} (hz : zeroT P T = some z) (hc : constOk z = true) (hn : width (avOf z) = n) :
    DStepU P C s [] ⟨d, .alloc T, ty, pos, after, g⟩ (.optr n [avOf z] 0 0) := by
  intro a w ok F G hr hu hG K Q hK
  simp only [List.map_nil, RepT] at hu
  obtain ⟨_, rfl⟩ := hu
  obtain ⟨cs, h1, h2⟩ := repV_avOf w ok z hc
  have hcv : cellV (avOf z) = true := by cases z <;> first | rfl | (simp [constOk, Value.oneCell'] at hc)
  have hl : cs.length = n := by rw [← hn]; exact rep_width h1 (by intro e; rw [e] at hcv; simp [cellV] at hcv)
  have hrun : (Instr.alloc T true (.tuple #[])).run P w = .ok (.pointer (some ⟨w.heap.size, 0, none⟩)) (w.alloc (.cells (cs ++ []).toArray T)) := by
    have hzc : z.cells = cs.toArray := by rw [h2]; exact wrap_cells h1 hcv
    simp only [Instr.alloc, newVar, newRow, hzc, Sem.run_bind, run_zero' hz, run_newObj, Result.andThen_ok, Sem.run_pure, List.append_nil]
    rfl
  have hrun2 : (execOp a.eval ⟨d, .alloc T, ty, pos, after, g⟩).run P w = .ok (.value (.pointer (some ⟨w.heap.size, 0, none⟩))) (w.alloc (.cells (cs ++ []).toArray T)) := run_value hrun
  unfold Oper.wp
  rw [hrun2, Oper.upon_value]
  have hk : ∀ H : List Nat, (∀ b ∈ H, b < w.heap.size) → Keeps w (w.alloc (.cells (cs ++ []).toArray T)) ok ok H := fun H hH => keeps_alloc hr.okLt hH _
  refine hK _ _ ok [w.heap.size] ⟨fun _ h => h, fun b hb => ⟨.inl hb, by have := hr.okLt b hb; simp; omega⟩, fun k hk' _ => Go.RowKit.Below.heap_alloc w _ k hk', by simp, rfl, rfl, rfl, (hk [] (by simp)).room⟩ ⟨[.pointer (some ⟨w.heap.size, 0, none⟩)], ?_, rfl⟩ (by simp) (fun b hb => ?_)
  · simp only [Rep]
    refine ⟨w.heap.size, cs, [], by simp, ?_, ⟨(cs ++ []).toArray, T, by show (w.heap.push _)[w.heap.size]? = _; simp, by simp, Nat.zero_le _⟩, rfl⟩
    simp only [RepL]
    exact ⟨cs, [], [], [], by simp, rfl, hl, rep_cells h1 hcv, Rep.keep _ _ _ (hk [] (by simp)) h1, rfl, rfl⟩
  · have : b = w.heap.size := by simpa using hb
    subst this
    exact ⟨.inr (Nat.le_refl _), fun hh => by have := hr.okLt _ hh; omega, by simp⟩
end Go.Ax
namespace Go.Ax
theorem repL1_cells {w : World} {ok : Nat → Prop} : ∀ {ys : List AV} {c : List Value} {F : List Nat}, RepL w ok 1 ys c F → c.all Value.oneCell' = true ∧ c.length = ys.length
  | [], c, F, h => by simp only [RepL] at h; obtain ⟨rfl, _⟩ := h; exact ⟨rfl, rfl⟩
  | y :: ys, c, F, h => by
    simp only [RepL] at h
    obtain ⟨c1, c2, F1, F2, rfl, rfl, h1, h0, h2, h3⟩ := h
    obtain ⟨q1, q2⟩ := repL1_cells h3
    refine ⟨?_, by simp [h1, q2]; omega⟩
    rw [List.all_append, q1, Bool.and_true, List.all_eq_true]
    exact h0
theorem plainL_valsM : ∀ l : List Value, plainL (l.map .val) = true
  | [] => rfl
  | c :: l => by simp [plainL, plainV, plainL_valsM l]
theorem RowRep.move {w : World} {ok : Nat → Prop} {B : Option Nat} {xs ys : List AV} {cells : List Value} {Fo G : List Nat} (h : RowRep w ok B ⟨1, xs ++ cells.map .val⟩ Fo) (hy : RepL w ok 1 ys cells G) : RowRep w ok B ⟨1, xs ++ ys⟩ (Fo ++ G) := by
  cases B with
  | none =>
    obtain ⟨h1, rfl⟩ := h
    simp only [List.append_eq_nil_iff, List.map_eq_nil_iff] at h1
    obtain ⟨rfl, rfl⟩ := h1
    obtain ⟨_, q⟩ := repL1_cells hy
    have : ys = [] := List.length_eq_zero_iff.1 q.symm
    subst this
    simp only [RepL] at hy
    exact ⟨rfl, by simp [hy.2]⟩
  | some b =>
    obtain ⟨c, F', r1, r2, rfl⟩ := h
    obtain ⟨c1, c2, F1, F2, rfl, rfl, g1, g2⟩ := RepL.split r1
    obtain ⟨rfl, rfl⟩ := repL_valsInv1 g2
    exact ⟨c1 ++ c2, F1 ++ G, RepL.append g1 hy, r2, by simp⟩
theorem AOps.appendMove {P : Program} {C : Ctx} {ops : Array Oper} {K : St → Prop} {tm : List (Nat × AV)} {hp : Hp} {d : Nat} {t e bb len k len2 k2 : Nat} {x y : Operand} {ty : TypeId} {pos : String} {after : Array Edge} {rest : List Oper} {B B2 : Option Nat} {xs ys : List AV} {z : Value}
    (ht : slElem P t = some (e, 1, bb)) (hz : zeroT P e = some z) (hzs : z.cells.size = 1) (hd : Nat.blt d C.nt = true) (hx : aev ⟨tm, (B, ⟨1, xs⟩) :: (B2, ⟨1, ys⟩) :: hp⟩ x = some (.loc B 0 len k 1)) (hlen : xs.length = len) (hy : aev ⟨tm, (B, ⟨1, xs⟩) :: (B2, ⟨1, ys⟩) :: hp⟩ y = some (.loc B2 0 len2 k2 1)) (hlen2 : ys.length = len2)
    (hb1 : len + ys.length ≤ 9223372036854775807) (hb2 : (len + ys.length) * bb ≤ 140737488355328)
    (h : ∀ B', AOps P C ops rest K ⟨(d, .loc B' 0 (len + ys.length) (len + ys.length) 1) :: tm, (B', ⟨1, xs ++ ys⟩) :: hp⟩) :
    AOps P C ops (⟨some d, .call ⟨.builtin .append, #[x, y], #[t, t]⟩, ty, pos, after, none⟩ :: rest) K ⟨tm, (B, ⟨1, xs⟩) :: (B2, ⟨1, ys⟩) :: hp⟩ := by
  intro Q a w hQ ⟨ok, F, hr⟩
  have hvx := hr.ev hx
  have hvy := hr.ev hy
  obtain ⟨Fj, F0, rfl, hrow, F2, Fr, rfl, hrow2, hrest⟩ := hr.hp
  have hnd := List.nodup_append.1 hr.nodup
  have hnd2 := List.nodup_append.1 hnd.2.1
  have hr0 : RelX C ⟨tm, (B, ⟨1, xs⟩) :: hp⟩ a w ok (Fj ++ Fr) := { hr with hp := ⟨Fj, Fr, rfl, hrow, hrest⟩, nodup := List.nodup_append.2 ⟨hnd.1, hnd2.2.1, fun u hu v hv => hnd.2.2 u hu v (by simp [hv])⟩, own := fun b hb => hr.own b (by rcases List.mem_append.1 hb with q | q <;> simp [q]) }
  -- what the second row holds
  obtain ⟨cells, G2, s1, s2, s3⟩ : ∃ cells G2, RepL w ok 1 ys cells G2 ∧ SrcAt w ok 1 (cells.map .val) (a.eval y) ∧ (∀ b ∈ G2, b ∈ F2) ∧ G2.Nodup := by
    cases B2 with
    | none =>
      obtain ⟨h1, rfl⟩ := hrow2
      simp only at h1
      subst h1
      exact ⟨[], [], by simp [RepL], SrcAt.row hvy ⟨rfl, rfl⟩ hlen2 rfl, by simp, List.nodup_nil⟩
    | some b2 =>
      obtain ⟨cells, F', r1, r2, rfl⟩ := hrow2
      obtain ⟨q1, q2⟩ := repL1_cells r1
      refine ⟨cells, F', r1, ?_, fun b hb => List.mem_cons_of_mem _ hb, (List.nodup_cons.1 hnd2.1).2⟩
      have := SrcAt.row (ys := cells.map .val) hvy ⟨cells, [], repL_vals w ok cells q1, r2, rfl⟩ (by simp [q2, hlen2]) (plainL_valsM cells)
      exact this
  have hyl : (cells.map AV.val).length = ys.length := by simp [(repL1_cells s1).2]
  obtain ⟨Fp, Fj', Fq, he, hrow', hset⟩ := hr0.hp.at (j := 0) rfl
  obtain ⟨v', w', B', F', q1, q2, q3, q4, q5, q6, q7, q8, q9, q10, q11⟩ := append_core (ty := ty) ht hz hzs (by omega) hvx hrow hlen hnd.1 (fun b hb => by obtain ⟨_, g2, g3⟩ := hr.own b (by simp [hb]); exact ⟨g2, g3⟩) hr.okLt s2 (by unfold maxLen; rw [hyl]; omega) (by rw [hyl]; exact hb2)
  rw [hyl] at q2
  -- the world behind it
  have hmem : ∀ b, b ∈ F2 ++ Fr → b ∉ Fj ∧ b < w.heap.size ∧ ¬ ok b ∧ (b ∈ C.own0 ∨ C.w0.heap.size ≤ b) := fun b hb => by
    obtain ⟨g1, g2, g3⟩ := hr.own b (List.mem_append_right _ hb)
    exact ⟨fun hj => hnd.2.2 b hj b hb rfl, g3, g2, g1⟩
  have hk : ∀ H : List Nat, (∀ b ∈ H, b ∈ F2 ++ Fr) → Keeps w w' ok ok H := fun H hH => ⟨fun b hb => ⟨hb, q6 b (hr.okOf b hb).1 (fun hj => (hr.own b (by simp [hj])).2.1 hb)⟩, fun b hb => q6 b (hmem b (hH b hb)).2.1 (hmem b (hH b hb)).1, q11⟩
  have hG2 : ∀ b ∈ G2, b ∈ F2 ++ Fr := fun b hb => List.mem_append_left _ (s3.1 b hb)
  have hrow2' := q3.move (RepL.keep 1 ys cells G2 (hk G2 hG2) s1)
  have hnew : RelX C ⟨tm, (B', ⟨1, xs ++ ys⟩) :: hp⟩ a w' ok ((F' ++ G2) ++ Fr) := by
    refine { size := hr.size, defers := hr.defers, tm := hr.tmKeep (hk [] (by simp)), hp := ⟨F' ++ G2, Fr, rfl, hrow2', hrest.keep (hk Fr fun b hb => List.mem_append_right _ hb)⟩, nodup := ?_, own := ?_, okOf := fun b hb => ⟨by have := hr.okLt b hb; omega, (hr.okOf b hb).2⟩, ok0 := hr.ok0, frame := ?_, grown := Nat.le_trans hr.grown q7, room := fun b m hb => q11 b m (hr.room b m hb), os := q8.trans hr.os, tape := q9.trans hr.tape, output := q10.trans hr.output, gl := hr.gl, low := hr.low, sep := hr.sep }
    · have apart : ∀ b ∈ F', b ∉ F2 ++ Fr := fun b hb hh => by
        obtain ⟨g1, g2, g3, _⟩ := hmem b hh
        rcases (q5 b hb).1 with z | z
        · exact g1 z
        · omega
      refine List.nodup_append.2 ⟨List.nodup_append.2 ⟨q4, s3.2, fun u hu v hv e => apart u hu (e ▸ hG2 v hv)⟩, hnd2.2.1, fun u hu v hv e => ?_⟩
      rcases List.mem_append.1 hu with z | z
      · exact apart u z (e ▸ List.mem_append_right _ hv)
      · exact hnd2.2.2 u (s3.1 u z) v hv e
    · intro b hb
      rw [List.append_assoc] at hb
      rcases List.mem_append.1 hb with z | z
      · obtain ⟨g1, g2, g3⟩ := q5 b z
        refine ⟨?_, g2, g3⟩
        rcases g1 with g1 | g1
        · exact (hr.own b (by simp [g1])).1
        · exact .inr (Nat.le_trans hr.grown g1)
      · have hz : b ∈ F2 ++ Fr := by
          rcases List.mem_append.1 z with z | z
          · exact hG2 b z
          · exact List.mem_append_right _ z
        obtain ⟨g1, g2, g3, g4⟩ := hmem b hz
        exact ⟨g4, g3, by omega⟩
    · intro k hk1 hk2
      rw [q6 k (by have := hr.grown; omega) (fun hj => by
        rcases (hr.own k (by simp [hj])).1 with z | z
        · exact hk2 z
        · omega)]
      exact hr.frame k hk1 hk2
  exact wpList_value rfl (append_oper q1) (h B' Q _ _ hQ ⟨ok, _, hnew.put (by simpa using hd) q2⟩)
theorem AOps.appendMoveE {P : Program} {C : Ctx} {ops : Array Oper} {K : St → Prop} {tm : List (Nat × AV)} {hp : Hp} {d : Nat} {t e bb len k len2 k2 len' : Nat} {x y : Operand} {ty : TypeId} {pos : String} {after : Array Edge} {rest : List Oper} {B B2 : Option Nat} {xs ys zs : List AV} {z : Value}
    (ht : slElem P t = some (e, 1, bb)) (hz : zeroT P e = some z) (hzs : z.cells.size = 1) (hd : Nat.blt d C.nt = true) (hx : aev ⟨tm, (B, ⟨1, xs⟩) :: (B2, ⟨1, ys⟩) :: hp⟩ x = some (.loc B 0 len k 1)) (hlen : xs.length = len) (hy : aev ⟨tm, (B, ⟨1, xs⟩) :: (B2, ⟨1, ys⟩) :: hp⟩ y = some (.loc B2 0 len2 k2 1)) (hlen2 : ys.length = len2)
    (hl' : len + ys.length = len') (hzs' : xs ++ ys = zs) (hb1 : len' ≤ 9223372036854775807) (hb2 : len' * bb ≤ 140737488355328)
    (h : ∀ B', AOps P C ops rest K ⟨(d, .loc B' 0 len' len' 1) :: tm, (B', ⟨1, zs⟩) :: hp⟩) :
    AOps P C ops (⟨some d, .call ⟨.builtin .append, #[x, y], #[t, t]⟩, ty, pos, after, none⟩ :: rest) K ⟨tm, (B, ⟨1, xs⟩) :: (B2, ⟨1, ys⟩) :: hp⟩ := by
  subst hl'; subst hzs'
  exact AOps.appendMove ht hz hzs hd hx hlen hy hlen2 hb1 hb2 h
theorem Wk.nilOwn {n : Nat} : Wk (.val (.slice none 0 0)) (.own n [] []) := ⟨rfl, fun w ok cs F hr => by
  simp only [Rep] at hr ⊢
  exact .inl ⟨trivial, trivial, hr.1, hr.2.1⟩⟩
theorem set_at_self {α : Type} : ∀ {l : List α} {i : Nat} {v : α}, l[i]? = some v → l.set i v = l
  | [], i, v, h => by simp at h
  | x :: l, 0, v, h => by simp at h; rw [List.set_cons_zero, h]
  | x :: l, i + 1, v, h => by rw [List.set_cons_succ, set_at_self (by simpa using h)]
end Go.Ax
namespace Go.Ax
theorem DStep.buildRo {P : Program} {C : Ctx} {s : St} {d : Option Tmp} {T e n bb len : Nat} {parts : List (Nat × Operand)} {ty : TypeId} {pos : String} {after : Array Edge} {g : Option (Nat × Bool)} {vs : List AV} {z : Value}
    (hT : slElem P T = some (e, n, bb)) (hz : zeroT P e = some z) (hp : partsL s 0 parts = some vs) (hv : allV (fun v => cellV v && Nat.beq (width v) n) vs = true) (hl : Nat.beq parts.length len = true) (hs : Nat.ble (len * n) 16777216 = true) :
    DStep P C s ⟨d, .buildSlice T len parts.toArray, ty, pos, after, g⟩ (.ro n vs [] false) := by
  intro a w ok F hr K Q hK
  obtain ⟨cells, k1, k2, k3, k4⟩ := buildSlice_run hr hT hz hp hv hl hs
  unfold Oper.wp
  have hrun : (execOp a.eval ⟨d, .buildSlice T len parts.toArray, ty, pos, after, g⟩).run P w = .ok (.value (.slice (some ⟨w.heap.size, 0, none⟩) len len)) (w.alloc (.cells (cells ++ []).toArray e)) := run_value k3
  rw [hrun, Oper.upon_value]
  have hk := keeps_alloc hr.okLt (F := []) (by simp) (.cells (cells ++ []).toArray e)
  refine hK _ _ (fun b => ok b ∨ b = w.heap.size) ⟨fun _ h => .inl h, fun b hb => ?_, fun k hk' => Go.RowKit.Below.heap_alloc w _ k hk', by simp, rfl, rfl, rfl⟩ ⟨[.slice (some ⟨w.heap.size, 0, none⟩) len len], ?_, rfl⟩
  · rcases hb with hb | rfl
    · exact ⟨.inl hb, by have := hr.okLt b hb; simp; omega⟩
    · exact ⟨.inr (Nat.le_refl _), by simp⟩
  · simp only [Rep]
    have hmore : Keeps w (w.alloc (.cells (cells ++ []).toArray e)) ok (fun b => ok b ∨ b = w.heap.size) [] := ⟨fun b hb => ⟨.inl hb, (hk.ok b hb).2⟩, fun b hb => by simp at hb, hk.room⟩
    have hb : BlkAt (w.alloc (.cells (cells ++ []).toArray e)) w.heap.size cells 0 := ⟨(cells ++ []).toArray, e, by show (w.heap.push _)[w.heap.size]? = _; simp, by simp, Nat.zero_le _⟩
    exact ⟨trivial, some ⟨w.heap.size, 0, none⟩, len, cells, [], by rw [k4], by simp [k4], by simp, RepL.keep _ _ _ _ hmore k1, by simp [RepL], .inr ⟨w.heap.size, 0, rfl, by rw [List.append_nil]; rw [List.append_nil] at hb; exact BlkAt.ro hb (Or.inr rfl)⟩⟩
end Go.Ax
namespace Go.Ax
theorem BinR.eqlAgg {P : Program} {t : TypeId} {x y : Operand} {xs ys : Array Value} {lx ly : Lit} (m : Nat) (hm : Nat.ble m 10000 = true) (hk : P.keyTypeAt m t = true) (hw : (match P.underlying t with | some (.array _ _) | some (.struct _) => true | _ => false) = true)
    (hg : P.eqGuardType P.depth t = false) (hx : keyOf P t (.agg xs) = some lx) (hy : keyOf P t (.agg ys) = some ly) : ∃ r : Bool, BinR P .eql t x y (.agg xs) (.agg ys) (.bool r) := by
  refine ⟨@decide (lx = ly) (Classical.propDecidable _), fun w => ?_⟩
  obtain ⟨r, h1, h2⟩ := run_equal_deep w (by simpa using hm) hk hw hx hy
  have hr : r = @decide (lx = ly) (Classical.propDecidable _) := by rw [Bool.eq_iff_iff, h2]; simp
  rw [← hr]
  simp [eqGuard, hg, binOp, h1, Sem.run_bind]
theorem RelX.valAgg {C : Ctx} {s : St} {a : Act} {w : World} {ok : Nat → Prop} {F : List Nat} (h : RelX C s a w ok F) {x : Operand} {l : List Value} (hx : aev s x = some (.agg (l.map .val))) : a.eval x = .agg l.toArray := by
  obtain ⟨cs, h1, h2⟩ := h.ev hx
  simp only [Rep] at h1
  obtain ⟨rfl, _⟩ := repL_valsInv1 h1
  exact h2
theorem Yields.binAgg {P : Program} {C : Ctx} {s : St} {ty : TypeId} {op : BinOp} {t : TypeId} {x y : Operand} {yt : TypeId} {la lb : List Value} {r : Value} (hx : aev s x = some (.agg (la.map .val))) (hy : aev s y = some (.agg (lb.map .val))) (ho : r.oneCell' = true) (hr : BinR P op t x y (.agg la.toArray) (.agg lb.toArray) r) : Yields P C s (.binOp op t x y yt) ty (.val r) := by
  intro d pos after a w ok F h
  refine ⟨r, ?_, repV_val _ _ _ ho⟩
  simp only [execOp, h.valAgg hx, h.valAgg hy]
  exact run_value (hr w)
end Go.Ax
namespace Go.Ax
theorem Yields.makeFunc {P : Program} {C : Ctx} {s : St} {ty : TypeId} {f : FuncId} {l : List Operand} {caps : List AV} (hx : aevs s l = some caps) (hp : plainL caps = true) : Yields P C s (.makeFunc (.func f) #[] l.toArray) ty (.fn f caps) := by
  intro d pos after a w ok F h
  refine ⟨.func (.func f) #[] (l.map a.eval).toArray, ?_, ⟨[.func (.func f) #[] (l.map a.eval).toArray], ?_, rfl⟩⟩
  · simp only [execOp, Instr.makeFunc]
    rw [show l.toArray.map a.eval = (l.map a.eval).toArray by simp]
    exact run_value (by simp [Sem.run_pure])
  · simp only [Rep]
    exact ⟨_, rfl, h.evs hx⟩
end Go.Ax
namespace Go.Ax
theorem Leads.freezeRow {C : Ctx} {tm : List (Nat × AV)} {hp : Hp} (k j i : Nat) {B : Option Nat} {n : Nat} {xs : List AV} {e e' : AV} (hfz : C.fz ∨ C.own0 = []) (hj : (hp.drop k)[j]? = some (B, ⟨n, xs⟩)) (hi : xs[i]? = some e) (hpl : plainV e = true) (hf : Fz (hp.take k) e e') : Leads C ⟨tm, hp⟩ ⟨tm, (hp.drop k).set j (B, ⟨n, xs.set i e'⟩)⟩ := fun a w ⟨ok, F, hr⟩ => by
  have hr' : RelX C ⟨tm, hp.take k ++ hp.drop k⟩ a w ok F := by rw [List.take_append_drop]; exact hr
  obtain ⟨F1, F2, rfl, h1, h2⟩ := hr'.hp.split
  exact ⟨_, F2, hr'.freeze (tm' := tm) hfz (fun u x hx => ⟨x, hx, Fz.refl⟩) (BorH.set j i hj hi hpl hf) h1 h2⟩
end Go.Ax
