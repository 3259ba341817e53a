/- Types: what the functions of the program under proof compute, and that both agree. -/
import Derived.Test.YtccdgppplkfjfaaDoorStr
namespace Go.Proofs.YtccdgppplkfjfaaDoor
open Go Go.Ax Go.Proofs
set_option linter.unusedVariables false
set_option linter.unusedSimpArgs false

theorem contains_AF (s sub : ByteArray) (hs : s.size < 4294967281) : Fn 63 [str s, str sub] (bool (Lib.contains s.data.toList sub.data.toList)) :=
  AF.ofVals Tryd.func63 rfl nm63 [.string s, .string sub] (.bool _) rfl fun w ⟨m, hm⟩ => Tryd.strings_Contains s sub m w hs hm

theorem add1 {s : ByteArray} {c : UInt8} (h : s.size ≤ 140737488355328) : (⟨#[c]⟩ : ByteArray).size + s.size ≤ 9223372036854775807 := by
  have : (⟨#[c]⟩ : ByteArray).size = 1 := rfl
  omega
theorem add2 {s : ByteArray} {c d : UInt8} (h : s.size ≤ 140737488355328) : ((⟨#[c]⟩ : ByteArray) ++ s).size + (⟨#[d]⟩ : ByteArray).size ≤ 9223372036854775807 := by
  have h1 : (⟨#[c]⟩ : ByteArray).size = 1 := rfl
  have h2 : (⟨#[d]⟩ : ByteArray).size = 1 := rfl
  rw [ByteArray.size_append]
  omega
theorem wrapped_data (s : ByteArray) (c d : UInt8) : ((⟨#[c]⟩ : ByteArray) ++ s ++ ⟨#[d]⟩).data.toList = c :: (s.data.toList ++ [d]) := by
  rw [data_append, data_append]; rfl

theorem nameOk_AF (s : ByteArray) (hs : s.size ≤ 140737488355328) : Fn 38 [str s] (bool (isNameL s.data.toList)) := by
  have hlen := data_length s
  refine AF.intro Tryd.func38 nm38 rfl rfl rfl rfl fun w0 ok0 => ?_
  refine AWP.seq ?_
  refine AWP.region ?_
  refine Y (ass rfl) rfl ?_
  refine AOps.nil ?_
  refine AWP.seq ?_
  refine AWP.seq ?_
  refine AWP.region ?_
  refine Y (mv rfl) rfl ?_
  refine Y (Yields.len_str Tryd.underlying9 rfl) rfl ?_
  refine Y (bn rfl rfl BinR.lss rfl) rfl ?_
  refine Y (mv rfl) rfl ?_
  refine AOps.split 7 rfl (fun h => ?_) (fun h => ?_)
  · replace h := of_decide_eq_true h
    refine AOps.off' rfl rfl rfl rfl ?_
    refine AOps.off' rfl rfl rfl rfl ?_
    refine AOps.off' rfl rfl rfl rfl ?_
    refine Y (Yields.pick_true rfl rfl) rfl ?_
    refine Y (mv rfl) rfl ?_
    refine AOps.off' rfl rfl rfl rfl ?_
    refine AOps.off' rfl rfl rfl rfl ?_
    refine AOps.off' rfl rfl rfl rfl ?_
    refine Y (Yields.pick_true rfl rfl) rfl ?_
    refine Y (mv rfl) rfl ?_
    refine AOps.off' rfl rfl rfl rfl ?_
    refine AOps.off' rfl rfl rfl rfl ?_
    refine AOps.off' rfl rfl rfl rfl ?_
    refine Y (Yields.pick_true rfl rfl) rfl ?_
    refine AOps.nil ?_
    refine AWP.cond rfl (fun _ => ?_) (fun h => absurd h (by decide))
    refine AWP.seq ?_
    refine AWP.region ?_
    refine Y (ass rfl) rfl ?_
    refine AOps.nil ?_
    refine AWP.ret ⟨.inl rfl, ?_⟩
    exact RetIs.oneV rfl rfl (by (rw [isName_long (.inl (by omega))]) <;> rfl)
  · replace h := of_decide_eq_false h
    refine AOps.on rfl rfl ?_
    refine Y (mv rfl) rfl ?_
    refine AOps.on rfl rfl ?_
    refine Y (Yields.len_str Tryd.underlying9 rfl) rfl ?_
    refine AOps.on rfl rfl ?_
    refine Y (bn rfl rfl BinR.gtr rfl) rfl ?_
    refine Y (Yields.pick_false rfl rfl) rfl ?_
    refine Y (mv rfl) rfl ?_
    refine AOps.split 12 rfl (fun h2 => ?_) (fun h2 => ?_)
    · replace h2 := of_decide_eq_true h2
      refine AOps.off' rfl rfl rfl rfl ?_
      refine AOps.off' rfl rfl rfl rfl ?_
      refine AOps.off' rfl rfl rfl rfl ?_
      refine Y (Yields.pick_true rfl rfl) rfl ?_
      refine Y (mv rfl) rfl ?_
      refine AOps.off' rfl rfl rfl rfl ?_
      refine AOps.off' rfl rfl rfl rfl ?_
      refine AOps.off' rfl rfl rfl rfl ?_
      refine Y (Yields.pick_true rfl rfl) rfl ?_
      refine AOps.nil ?_
      refine AWP.cond rfl (fun _ => ?_) (fun h => absurd h (by decide))
      refine AWP.seq ?_
      refine AWP.region ?_
      refine Y (ass rfl) rfl ?_
      refine AOps.nil ?_
      refine AWP.ret ⟨.inl rfl, ?_⟩
      exact RetIs.oneV rfl rfl (by (rw [isName_long (.inr (by omega))]) <;> rfl)
    · replace h2 := of_decide_eq_false h2
      obtain ⟨c0, hc0⟩ := byte_at (s := s) (i := 0) (by omega)
      refine AOps.on rfl rfl ?_
      refine Y (mv rfl) rfl ?_
      refine AOps.on rfl rfl ?_
      refine Y (Yields.idx_strN Tryd.underlying9 rfl rfl (j := 0) rfl hc0) rfl ?_
      refine AOps.on rfl rfl ?_
      refine Y (bn rfl rfl BinR.lss rfl) rfl ?_
      refine Y (Yields.pick_false rfl rfl) rfl ?_
      refine Y (mv rfl) rfl ?_
      refine AOps.split 17 rfl (fun h3 => ?_) (fun h3 => ?_)
      · replace h3 := of_decide_eq_true h3
        refine AOps.off' rfl rfl rfl rfl ?_
        refine AOps.off' rfl rfl rfl rfl ?_
        refine AOps.off' rfl rfl rfl rfl ?_
        refine Y (Yields.pick_true rfl rfl) rfl ?_
        refine AOps.nil ?_
        refine AWP.cond rfl (fun _ => ?_) (fun h => absurd h (by decide))
        refine AWP.seq ?_
        refine AWP.region ?_
        refine Y (ass rfl) rfl ?_
        refine AOps.nil ?_
        refine AWP.ret ⟨.inl rfl, ?_⟩
        exact RetIs.oneV rfl rfl (by (rw [isName_bad hc0 (by simp [lowB]; omega) (.inl rfl)]) <;> rfl)
      · replace h3 := of_decide_eq_false h3
        refine AOps.on rfl rfl ?_
        refine Y (mv rfl) rfl ?_
        refine AOps.on rfl rfl ?_
        refine Y (Yields.idx_strN Tryd.underlying9 rfl rfl (j := 0) rfl hc0) rfl ?_
        refine AOps.on rfl rfl ?_
        refine Y (bn rfl rfl BinR.gtr rfl) rfl ?_
        refine Y (Yields.pick_false rfl rfl) rfl ?_
        refine AOps.nil ?_
        refine AWP.condT rfl (fun h4 => ?_) (fun h4 => ?_)
        · replace h4 := of_decide_eq_true h4
          refine AWP.seq ?_
          refine AWP.region ?_
          refine Y (ass rfl) rfl ?_
          refine AOps.nil ?_
          refine AWP.ret ⟨.inl rfl, ?_⟩
          exact RetIs.oneV rfl rfl (by (rw [isName_bad hc0 (by simp [lowB]; omega) (.inl rfl)]) <;> rfl)
        · replace h4 := of_decide_eq_false h4
          refine AWP.skip ?_
          refine AWP.seq ?_
          refine AWP.seq ?_
          refine AWP.region ?_
          refine Y (mv rfl) rfl ?_
          refine Y (Yields.len_str Tryd.underlying9 rfl) rfl ?_
          refine Y (mv rfl) rfl ?_
          refine AOps.nil ?_
          refine AWP.block ?_
          refine AWP.loopV (α := Nat) (fun i : Nat => ⟨[(0, str s), (23, int s.size), (24, int i)], []⟩) (fun i : Nat => i ≤ s.size ∧ ∀ j c, j < i → s.data.toList[j]? = some c → lowB c = true ∨ (j ≠ 0 ∧ digB c = true)) (fun i : Nat => s.size - i) (0) ?_ ?_ ?_
          · exact Leads.rows 0 ⟨rfl, rfl, rfl, trivial⟩
          · show 0 ≤ s.size ∧ ∀ j c, j < 0 → s.data.toList[j]? = some c → lowB c = true ∨ (j ≠ 0 ∧ digB c = true)
            exact ⟨Nat.zero_le _, fun j c h => by omega⟩
          · rintro i hinv
            refine AWP.seq ?_
            refine AWP.region ?_
            obtain ⟨hi, hp⟩ := hinv
            refine Y (bn rfl rfl BinR.lss rfl) rfl ?_
            refine AOps.nil ?_
            refine AWP.seq ?_
            refine AWP.condT rfl (fun g => ?_) (fun g => ?_)
            · replace g := of_decide_eq_true g
              have hlt : i < s.data.toList.length := by omega
              obtain ⟨c, hc, _⟩ := drop_at hlt
              have nxt : (lowB c = true ∨ (i ≠ 0 ∧ digB c = true)) → (i + 1 ≤ s.size ∧ ∀ j c, j < i + 1 → s.data.toList[j]? = some c → lowB c = true ∨ (j ≠ 0 ∧ digB c = true)) := by
                 refine fun hx => ⟨by omega, fun j d hj hd => ?_⟩
                 by_cases e : j = i
                 · subst e; rw [hc] at hd; cases hd; exact hx
                 · exact hp j d (by omega) hd
              have hne : ¬ lowB c = true → i ≠ 0 := by
                 rintro hx rfl; rw [hc0] at hc; cases hc; exact hx (by simp [lowB]; omega)
              refine AWP.skip ?_
              refine AWP.seq ?_
              refine AWP.block ?_
              refine AWP.seq ?_
              refine AWP.region ?_
              refine Y (mv rfl) rfl ?_
              refine Y (ass rfl) rfl ?_
              refine AOps.nil ?_
              refine AWP.seq ?_
              refine AWP.region ?_
              refine Y (mv rfl) rfl ?_
              refine Y (mv rfl) rfl ?_
              refine Y (Yields.idx_strN Tryd.underlying9 rfl rfl rfl hc) rfl ?_
              refine Y (bn rfl rfl BinR.lss rfl) rfl ?_
              refine Y (mv rfl) rfl ?_
              refine AOps.split 31 rfl (fun h5 => ?_) (fun h5 => ?_)
              · replace h5 := of_decide_eq_true h5
                refine AOps.off' rfl rfl rfl rfl ?_
                refine AOps.off' rfl rfl rfl rfl ?_
                refine AOps.off' rfl rfl rfl rfl ?_
                refine AOps.off' rfl rfl rfl rfl ?_
                refine Y (Yields.pick_true rfl rfl) rfl ?_
                refine Y (mv rfl) rfl ?_
                refine AOps.on rfl rfl ?_
                refine Y (mv rfl) rfl ?_
                refine AOps.on rfl rfl ?_
                refine Y (mv rfl) rfl ?_
                refine AOps.on rfl rfl ?_
                refine Y (Yields.idx_strN Tryd.underlying9 rfl rfl rfl hc) rfl ?_
                refine AOps.on rfl rfl ?_
                refine Y (bn rfl rfl BinR.lss rfl) rfl ?_
                refine AOps.on rfl rfl ?_
                refine Y (mv rfl) rfl ?_
                refine AOps.split 42 rfl (fun h6 => ?_) (fun h6 => ?_)
                · replace h6 := of_decide_eq_true h6
                  refine AOps.off' rfl rfl rfl rfl ?_
                  refine AOps.off' rfl rfl rfl rfl ?_
                  refine AOps.off' rfl rfl rfl rfl ?_
                  refine AOps.off' rfl rfl rfl rfl ?_
                  refine AOps.on rfl rfl ?_
                  refine Y (Yields.pick_true rfl rfl) rfl ?_
                  refine Y (Yields.pick_true rfl rfl) rfl ?_
                  refine AOps.nil ?_
                  refine AWP.cond rfl (fun _ => ?_) (fun h => absurd h (by decide))
                  refine AWP.seq ?_
                  refine AWP.region ?_
                  refine Y (ass rfl) rfl ?_
                  refine AOps.nil ?_
                  refine AWP.ret ⟨.inl rfl, ?_⟩
                  exact RetIs.oneV rfl rfl (by (rw [isName_bad hc (by simp [lowB]; omega) (.inr (by simp [digB]; omega))]) <;> rfl)
                · replace h6 := of_decide_eq_false h6
                  refine AOps.on rfl rfl ?_
                  refine Y (mv rfl) rfl ?_
                  refine AOps.on rfl rfl ?_
                  refine Y (mv rfl) rfl ?_
                  refine AOps.on rfl rfl ?_
                  refine Y (Yields.idx_strN Tryd.underlying9 rfl rfl rfl hc) rfl ?_
                  refine AOps.on rfl rfl ?_
                  refine Y (bn rfl rfl BinR.gtr rfl) rfl ?_
                  refine AOps.on rfl rfl ?_
                  refine Y (Yields.pick_false rfl rfl) rfl ?_
                  refine Y (Yields.pick_true rfl rfl) rfl ?_
                  refine AOps.nil ?_
                  refine AWP.condT rfl (fun h7 => ?_) (fun h7 => ?_)
                  · replace h7 := of_decide_eq_true h7
                    refine AWP.seq ?_
                    refine AWP.region ?_
                    refine Y (ass rfl) rfl ?_
                    refine AOps.nil ?_
                    refine AWP.ret ⟨.inl rfl, ?_⟩
                    exact RetIs.oneV rfl rfl (by (rw [isName_bad hc (by simp [lowB]; omega) (.inr (by simp [digB]; omega))]) <;> rfl)
                  · replace h7 := of_decide_eq_false h7
                    refine AWP.skip ?_
                    refine AWP.region ?_
                    refine Y (bn rfl rfl (BinR.addI (by omega) (by omega)) rfl) rfl ?_
                    refine Y (mv rfl) rfl ?_
                    refine AOps.nil ?_
                    refine ⟨i + 1, ?_, ?_, ?_⟩
                    · show s.size - (i + 1) < s.size - i
                      omega
                    · show (i + 1) ≤ s.size ∧ ∀ j c, j < (i + 1) → s.data.toList[j]? = some c → lowB c = true ∨ (j ≠ 0 ∧ digB c = true)
                      exact nxt (.inr ⟨hne (by simp [lowB]; omega), by simp [digB]; omega⟩)
                    · exact Leads.rows 0 ⟨rfl, rfl, rfl, trivial⟩
              · replace h5 := of_decide_eq_false h5
                refine AOps.on rfl rfl ?_
                refine Y (mv rfl) rfl ?_
                refine AOps.on rfl rfl ?_
                refine Y (mv rfl) rfl ?_
                refine AOps.on rfl rfl ?_
                refine Y (Yields.idx_strN Tryd.underlying9 rfl rfl rfl hc) rfl ?_
                refine AOps.on rfl rfl ?_
                refine Y (bn rfl rfl BinR.gtr rfl) rfl ?_
                refine Y (Yields.pick_false rfl rfl) rfl ?_
                refine Y (mv rfl) rfl ?_
                refine AOps.split 37 rfl (fun h6 => ?_) (fun h6 => ?_)
                · replace h6 := of_decide_eq_true h6
                  refine AOps.on rfl rfl ?_
                  refine Y (mv rfl) rfl ?_
                  refine AOps.on rfl rfl ?_
                  refine Y (mv rfl) rfl ?_
                  refine AOps.on rfl rfl ?_
                  refine Y (Yields.idx_strN Tryd.underlying9 rfl rfl rfl hc) rfl ?_
                  refine AOps.on rfl rfl ?_
                  refine Y (bn rfl rfl BinR.lss rfl) rfl ?_
                  refine AOps.on rfl rfl ?_
                  refine Y (mv rfl) rfl ?_
                  refine AOps.split 42 rfl (fun h7 => ?_) (fun h7 => ?_)
                  · replace h7 := of_decide_eq_true h7
                    refine AOps.off' rfl rfl rfl rfl ?_
                    refine AOps.off' rfl rfl rfl rfl ?_
                    refine AOps.off' rfl rfl rfl rfl ?_
                    refine AOps.off' rfl rfl rfl rfl ?_
                    refine AOps.on rfl rfl ?_
                    refine Y (Yields.pick_true rfl rfl) rfl ?_
                    refine Y (Yields.pick_true rfl rfl) rfl ?_
                    refine AOps.nil ?_
                    refine AWP.cond rfl (fun _ => ?_) (fun h => absurd h (by decide))
                    refine AWP.seq ?_
                    refine AWP.region ?_
                    refine Y (ass rfl) rfl ?_
                    refine AOps.nil ?_
                    refine AWP.ret ⟨.inl rfl, ?_⟩
                    exact RetIs.oneV rfl rfl (by (rw [isName_bad hc (by simp [lowB]; omega) (.inr (by simp [digB]; omega))]) <;> rfl)
                  · replace h7 := of_decide_eq_false h7
                    refine AOps.on rfl rfl ?_
                    refine Y (mv rfl) rfl ?_
                    refine AOps.on rfl rfl ?_
                    refine Y (mv rfl) rfl ?_
                    refine AOps.on rfl rfl ?_
                    refine Y (Yields.idx_strN Tryd.underlying9 rfl rfl rfl hc) rfl ?_
                    refine AOps.on rfl rfl ?_
                    refine Y (bn rfl rfl BinR.gtr rfl) rfl ?_
                    refine AOps.on rfl rfl ?_
                    refine Y (Yields.pick_false rfl rfl) rfl ?_
                    refine Y (Yields.pick_true rfl rfl) rfl ?_
                    refine AOps.nil ?_
                    refine AWP.condT rfl (fun h8 => ?_) (fun h8 => ?_)
                    · replace h8 := of_decide_eq_true h8
                      refine AWP.seq ?_
                      refine AWP.region ?_
                      refine Y (ass rfl) rfl ?_
                      refine AOps.nil ?_
                      refine AWP.ret ⟨.inl rfl, ?_⟩
                      exact RetIs.oneV rfl rfl (by (rw [isName_bad hc (by simp [lowB]; omega) (.inr (by simp [digB]; omega))]) <;> rfl)
                    · replace h8 := of_decide_eq_false h8
                      refine AWP.skip ?_
                      refine AWP.region ?_
                      refine Y (bn rfl rfl (BinR.addI (by omega) (by omega)) rfl) rfl ?_
                      refine Y (mv rfl) rfl ?_
                      refine AOps.nil ?_
                      refine ⟨i + 1, ?_, ?_, ?_⟩
                      · show s.size - (i + 1) < s.size - i
                        omega
                      · show (i + 1) ≤ s.size ∧ ∀ j c, j < (i + 1) → s.data.toList[j]? = some c → lowB c = true ∨ (j ≠ 0 ∧ digB c = true)
                        exact nxt (.inr ⟨hne (by simp [lowB]; omega), by simp [digB]; omega⟩)
                      · exact Leads.rows 0 ⟨rfl, rfl, rfl, trivial⟩
                · replace h6 := of_decide_eq_false h6
                  refine AOps.off' rfl rfl rfl rfl ?_
                  refine AOps.off' rfl rfl rfl rfl ?_
                  refine AOps.off' rfl rfl rfl rfl ?_
                  refine AOps.off' rfl rfl rfl rfl ?_
                  refine AOps.off' rfl rfl rfl rfl ?_
                  refine AOps.offU rfl rfl rfl ?_
                  refine AOps.offU rfl rfl rfl ?_
                  refine AOps.offU rfl rfl rfl ?_
                  refine AOps.offU rfl rfl rfl ?_
                  refine AOps.off' rfl rfl rfl rfl ?_
                  refine Y (Yields.pick_false rfl rfl) rfl ?_
                  refine AOps.nil ?_
                  refine AWP.cond rfl (fun h => absurd h (by decide)) (fun _ => ?_)
                  refine AWP.skip ?_
                  refine AWP.region ?_
                  refine Y (bn rfl rfl (BinR.addI (by omega) (by omega)) rfl) rfl ?_
                  refine Y (mv rfl) rfl ?_
                  refine AOps.nil ?_
                  refine ⟨i + 1, ?_, ?_, ?_⟩
                  · show s.size - (i + 1) < s.size - i
                    omega
                  · show (i + 1) ≤ s.size ∧ ∀ j c, j < (i + 1) → s.data.toList[j]? = some c → lowB c = true ∨ (j ≠ 0 ∧ digB c = true)
                    exact nxt (.inl (by simp [lowB]; omega))
                  · exact Leads.rows 0 ⟨rfl, rfl, rfl, trivial⟩
            · replace g := of_decide_eq_false g
              have hall : ∀ j c, s.data.toList[j]? = some c → lowB c = true ∨ (j ≠ 0 ∧ digB c = true) := fun j c hc => hp j c (by have := (List.getElem?_eq_some_iff.1 hc).1; omega) hc
              have hend := isName_end hall
              rw [hlen] at hend
              have h5' : (decide (1 ≤ s.size) && decide (s.size ≤ 8)) = true := by simp; omega
              refine AWP.exit ?_
              refine AWP.seq ?_
              refine AWP.region ?_
              refine Y (mv rfl) rfl ?_
              refine Y (bn rfl rfl (BinR.sadd (by exact add1 hs)) rfl) rfl ?_
              refine Y (bn rfl rfl (BinR.sadd (by exact add2 hs)) rfl) rfl ?_
              refine AOps.callro (contains_AF _ _ (by decide)) rfl rfl rfl ?_
              refine Y (Yields.not rfl) rfl ?_
              refine Y (ass rfl) rfl ?_
              refine AOps.nil ?_
              refine AWP.ret ⟨.inl rfl, ?_⟩
              exact RetIs.oneV rfl rfl (by (rw [hend, h5', wrapped_data]; simp only [Bool.true_and]; exact congrArg (fun b => AV.val (Value.bool (!b))) (isName_contains hall)) <;> rfl)

theorem baseL_no {l : List UInt8} (h : brB l = false) : ∀ k, baseL k l = l
  | 0 => rfl
  | k + 1 => by rw [baseL, if_neg (by simp [h])]
theorem baseL_size : ∀ (k : Nat) (l : List UInt8), (baseL k l).length ≤ l.length
  | 0, l => Nat.le_refl _
  | k + 1, l => by
    rw [baseL]
    split
    · rename_i h
      have := inner_length h
      have := baseL_size k (inner l)
      omega
    · exact Nat.le_refl _
theorem to_base {t s : ByteArray} (h : baseL 0 t.data.toList = baseL 2 s.data.toList) : t = bytesOf (baseL 2 s.data.toList) := by
  rw [← h]; exact (bytesOf_data t).symm

theorem typeBase_AF (s : ByteArray) (hs : s.size ≤ 140737488355328) : Fn 97 [str s] (.tup [str (bytesOf (baseL 2 s.data.toList)), bool (typeOkL s.data.toList)]) := by
  have hbl := baseL_size 2 s.data.toList
  rw [data_length] at hbl
  have hbs : (bytesOf (baseL 2 s.data.toList)).size ≤ 140737488355328 := by rw [← data_length, data_bytesOf]; omega
  refine AF.intro Tryd.func97 nm97 rfl rfl rfl rfl fun w0 ok0 => ?_
  refine AWP.seq ?_
  refine AWP.region ?_
  refine Y (ass rfl) rfl ?_
  refine Y (ass rfl) rfl ?_
  refine AOps.nil ?_
  refine AWP.midT [(0, str (bytesOf (baseL 2 s.data.toList)))] [] ?_ ?_
  ·
   skip
   refine AWP.seq ?_
   refine AWP.region ?_
   refine Y (mv rfl) rfl ?_
   refine AOps.nil ?_
   refine AWP.block ?_
   refine AWP.loopV (α := ByteArray × Nat) (fun pp : ByteArray × Nat => match pp with | (t, i) => ⟨[(0, str t), (4, int i)], []⟩) (fun pp : ByteArray × Nat => match pp with | (t, i) => i ≤ 2 ∧ t.size ≤ s.size ∧ baseL (2 - i) t.data.toList = baseL 2 s.data.toList) (fun pp : ByteArray × Nat => match pp with | (t, i) => 2 - i) ((s, 0)) ?_ ?_ ?_
   · exact Leads.rows 0 ⟨rfl, rfl, trivial⟩
   ·
    show 0 ≤ 2 ∧ s.size ≤ s.size ∧ baseL (2 - 0) s.data.toList = baseL 2 s.data.toList
    exact ⟨Nat.zero_le _, Nat.le_refl _, rfl⟩
   ·
    rintro ⟨t, i⟩ hinv
    replace hinv : i ≤ 2 ∧ t.size ≤ s.size ∧ baseL (2 - i) t.data.toList = baseL 2 s.data.toList := hinv
    show AWP _ _ _ _ ⟨[(0, str t), (4, int i)], []⟩
    refine AWP.seq ?_
    refine AWP.region ?_
    obtain ⟨hi, hsz, hp⟩ := hinv
    refine Y (bn rfl rfl BinR.lss rfl) rfl ?_
    refine AOps.nil ?_
    refine AWP.seq ?_
    refine AWP.condT rfl (fun g => ?_) (fun g => ?_)
    ·
     replace g := of_decide_eq_true g
     refine AWP.skip ?_
     refine AWP.seq ?_
     refine AWP.block ?_
     refine AWP.seq ?_
     refine AWP.seq ?_
     refine AWP.region ?_
     refine Y (mv rfl) rfl ?_
     refine Y (Yields.len_str Tryd.underlying9 rfl) rfl ?_
     refine Y (bn rfl rfl BinR.lss rfl) rfl ?_
     refine Y (mv rfl) rfl ?_
     refine AOps.split 9 rfl (fun h2 => ?_) (fun h2 => ?_)
     ·
      replace h2 := of_decide_eq_true h2
      rw [baseL_no (brB_data (s := t) (by omega))] at hp
      have ht := to_base hp
      refine AOps.off' rfl rfl rfl rfl ?_
      refine AOps.off' rfl rfl rfl rfl ?_
      refine AOps.off' rfl rfl rfl rfl ?_
      refine Y (Yields.pick_true rfl rfl) rfl ?_
      refine Y (mv rfl) rfl ?_
      refine AOps.off' rfl rfl rfl rfl ?_
      refine AOps.off' rfl rfl rfl rfl ?_
      refine AOps.off' rfl rfl rfl rfl ?_
      refine AOps.off' rfl rfl rfl rfl ?_
      refine AOps.off' rfl rfl rfl rfl ?_
      refine AOps.off' rfl rfl rfl rfl ?_
      refine Y (Yields.pick_true rfl rfl) rfl ?_
      refine AOps.nil ?_
      refine AWP.cond rfl (fun _ => ?_) (fun h => absurd h (by decide))
      refine AWP.exit ?_
      exact Leads.rows 0 ⟨(by rw [ht]; rfl), trivial⟩
     ·
      replace h2 := of_decide_eq_false h2
      obtain ⟨c, hc⟩ := byte_at (s := t) (i := 0) (by omega)
      refine AOps.on rfl rfl ?_
      refine Y (mv rfl) rfl ?_
      refine AOps.on rfl rfl ?_
      refine Y (Yields.idx_strN Tryd.underlying9 rfl rfl (j := 0) rfl hc) rfl ?_
      refine AOps.on rfl rfl ?_
      refine Y (bn rfl rfl BinR.neq rfl) rfl ?_
      refine Y (Yields.pick_false rfl rfl) rfl ?_
      refine Y (mv rfl) rfl ?_
      refine AOps.split 14 rfl (fun h3 => ?_) (fun h3 => ?_)
      ·
       replace h3 := bne_iff_ne.1 h3
       rw [baseL_no (brB_first hc h3)] at hp
       have ht := to_base hp
       refine AOps.off' rfl rfl rfl rfl ?_
       refine AOps.off' rfl rfl rfl rfl ?_
       refine AOps.off' rfl rfl rfl rfl ?_
       refine AOps.off' rfl rfl rfl rfl ?_
       refine AOps.off' rfl rfl rfl rfl ?_
       refine AOps.off' rfl rfl rfl rfl ?_
       refine Y (Yields.pick_true rfl rfl) rfl ?_
       refine AOps.nil ?_
       refine AWP.cond rfl (fun _ => ?_) (fun h => absurd h (by decide))
       refine AWP.exit ?_
       exact Leads.rows 0 ⟨(by rw [ht]; rfl), trivial⟩
      ·
       replace h3 := bne_eq_false_iff_eq.1 h3
       obtain ⟨d, hd⟩ := byte_at (s := t) (i := t.size - 1) (by omega)
       refine AOps.on rfl rfl ?_
       refine Y (mv rfl) rfl ?_
       refine AOps.on rfl rfl ?_
       refine Y (mv rfl) rfl ?_
       refine AOps.on rfl rfl ?_
       refine Y (Yields.len_str Tryd.underlying9 rfl) rfl ?_
       refine AOps.on rfl rfl ?_
       refine Y (bn rfl rfl (BinR.subI (by omega) (by omega)) rfl) rfl ?_
       refine AOps.on rfl rfl ?_
       refine Y (Yields.idx_strN Tryd.underlying9 rfl rfl (j := t.size - 1) (by omega) hd) rfl ?_
       refine AOps.on rfl rfl ?_
       refine Y (bn rfl rfl BinR.neq rfl) rfl ?_
       refine Y (Yields.pick_false rfl rfl) rfl ?_
       refine AOps.nil ?_
       refine AWP.condT rfl (fun h4 => ?_) (fun h4 => ?_)
       ·
        replace h4 := bne_iff_ne.1 h4
        rw [baseL_no (brB_last hd h4)] at hp
        have ht := to_base hp
        refine AWP.exit ?_
        exact Leads.rows 0 ⟨(by rw [ht]; rfl), trivial⟩
       ·
        replace h4 := bne_eq_false_iff_eq.1 h4
        have hbr := brB_yes (by omega) hc h3 hd h4
        have hin := inner_length hbr
        rw [data_length] at hin
        have hil : (t.extract 1 (t.size - 1)).size = (inner t.data.toList).length := by rw [← inner_data, data_length]
        have hk : 2 - i = (2 - (i + 1)) + 1 := by omega
        rw [hk, baseL, if_pos hbr] at hp
        refine AWP.skip ?_
        refine AWP.region ?_
        refine Y (mv rfl) rfl ?_
        refine Y (mv rfl) rfl ?_
        refine Y (Yields.len_str Tryd.underlying9 rfl) rfl ?_
        refine Y (bn rfl rfl (BinR.subI (by omega) (by omega)) rfl) rfl ?_
        refine Y (Yields.slice_str Tryd.underlying9 rfl (l := 1) (u := t.size - 1) ⟨.i64, rfl⟩ ⟨.i64, by show some (AV.val (Value.int .i64 _)) = _; congr 3; omega⟩ (by omega) (by omega)) rfl ?_
        refine Y (ass rfl) rfl ?_
        refine AOps.nil ?_
        refine AWP.region ?_
        refine Y (bn rfl rfl (BinR.addI (by omega) (by omega)) rfl) rfl ?_
        refine Y (mv rfl) rfl ?_
        refine AOps.nil ?_
        refine ⟨(t.extract 1 (t.size - 1), i + 1), ?_, ?_, ?_⟩
        ·
         show 2 - (i + 1) < 2 - i
         omega
        ·
         show (i + 1) ≤ 2 ∧ (t.extract 1 (t.size - 1)).size ≤ s.size ∧ baseL (2 - (i + 1)) (t.extract 1 (t.size - 1)).data.toList = baseL 2 s.data.toList
         exact ⟨by omega, by omega, by rw [inner_data]; exact hp⟩
        · exact Leads.rows 0 ⟨rfl, rfl, trivial⟩
    ·
     replace g := of_decide_eq_false g
     have h0 : 2 - i = 0 := by omega
     rw [h0] at hp
     have ht := to_base hp
     refine AWP.exit ?_
     exact Leads.rows 0 ⟨(by rw [ht]; rfl), trivial⟩
  ·
   skip
   refine AWP.seq ?_
   refine AWP.region ?_
   refine Y (mv rfl) rfl ?_
   refine Y (mv rfl) rfl ?_
   refine AOps.callro (plainType_AF _) rfl rfl rfl ?_
   refine Y (mv rfl) rfl ?_
   refine AOps.split 31 rfl (fun h => ?_) (fun h => ?_)
   ·
    skip
    rw [data_bytesOf] at h
    refine AOps.off' rfl rfl rfl rfl ?_
    refine AOps.off' rfl rfl rfl rfl ?_
    refine Y (Yields.pick_true rfl rfl) rfl ?_
    refine Y (ass rfl) rfl ?_
    refine Y (ass rfl) rfl ?_
    refine AOps.nil ?_
    refine AWP.ret ⟨.inl rfl, ?_⟩
    exact RetIs.twoV rfl rfl rfl (by (simp [typeOk_base, h]) <;> rfl)
   ·
    skip
    rw [data_bytesOf] at h
    refine AOps.on rfl rfl ?_
    refine Y (mv rfl) rfl ?_
    refine AOps.on rfl rfl ?_
    refine AOps.callro (nameOk_AF _ hbs) rfl rfl rfl ?_
    refine Y (Yields.pick_false rfl rfl) rfl ?_
    refine Y (ass rfl) rfl ?_
    refine Y (ass rfl) rfl ?_
    refine AOps.nil ?_
    refine AWP.ret ⟨.inl rfl, ?_⟩
    exact RetIs.twoV rfl rfl rfl (by (rw [data_bytesOf]; simp [typeOk_base, h]) <;> rfl)

theorem iTypeOk_AF (s : ByteArray) (hs : s.size ≤ 140737488355328) : Fn 87 [str s] (bool (typeOkL s.data.toList)) := by
  refine AF.intro Tryd.func87 nm87 rfl rfl rfl rfl fun w0 ok0 => ?_
  refine AWP.seq ?_
  refine AWP.region ?_
  refine Y (ass rfl) rfl ?_
  refine AOps.nil ?_
  refine AWP.seq ?_
  refine AWP.region ?_
  refine Y (mv rfl) rfl ?_
  refine AOps.callro (typeBase_AF s hs) rfl rfl rfl ?_
  refine Y (mv rfl) rfl ?_
  refine Y (Yields.extract rfl rfl) rfl ?_
  refine Y (Yields.extract rfl rfl) rfl ?_
  refine Y (ass rfl) rfl ?_
  refine Y (ass rfl) rfl ?_
  refine AOps.nil ?_
  refine AWP.seq ?_
  refine AWP.region ?_
  refine Y (mv rfl) rfl ?_
  refine Y (ass rfl) rfl ?_
  refine AOps.nil ?_
  refine AWP.ret ⟨.inl rfl, ?_⟩
  exact RetIs.oneV rfl rfl (by (rfl) <;> rfl)

theorem typeOk_nil : typeOkL [] = false := by
  rw [typeOk_base]; decide
theorem typeOk_open {s : ByteArray} {c : UInt8} (h : typeOkL s.data.toList = true) (hc : s.data.toList[0]? = some c) (h91 : (c.toNat : Int) = 91) : brB s.data.toList = true := by
  cases hb : brB s.data.toList with
  | true => rfl
  | false =>
    exfalso
    rw [typeOk_base, baseL_no hb] at h
    have e : c = 91 := u8_of h91
    subst e
    cases hl : s.data.toList with
    | nil => rw [hl] at hc; simp at hc
    | cons d l =>
      rw [hl] at hc h
      simp at hc
      subst hc
      have : lowB 91 = false := by decide
      simp [plainT, isNameL, this] at h
theorem typeOk_size {s : ByteArray} (h : typeOkL s.data.toList = true) : 1 ≤ s.size := by
  rcases Nat.eq_zero_or_pos s.size with h0 | h0
  · have : s.data.toList = [] := List.length_eq_zero_iff.1 (by rw [data_length]; exact h0)
    rw [this, typeOk_nil] at h; cases h
  · exact h0
def isItem (s : ByteArray) : Bool := typeOkL s.data.toList && (s.data.toList[0]? == some 91)
def itemOf (s : ByteArray) : ByteArray := if isItem s = true then s.extract 1 (s.size - 1) else ⟨#[]⟩
theorem isItem_no1 {s : ByteArray} (h : typeOkL s.data.toList = false) : isItem s = false := by simp [isItem, h]
theorem isItem_no2 {s : ByteArray} {c : UInt8} (hc : s.data.toList[0]? = some c) (h : ¬ (c.toNat : Int) = 91) : isItem s = false := by
  have : ¬ c = 91 := fun e => h (by subst e; rfl)
  simp [isItem, hc, this]
theorem isItem_yes {s : ByteArray} {c : UInt8} (ht : typeOkL s.data.toList = true) (hc : s.data.toList[0]? = some c) (h : (c.toNat : Int) = 91) : isItem s = true := by
  have e : c = 91 := u8_of h
  simp [isItem, ht, hc, e]
def listT (s : ByteArray) : ByteArray := (⟨#[91]⟩ : ByteArray) ++ s ++ ⟨#[93]⟩
def isListT (s : ByteArray) : Bool := typeOkL s.data.toList && typeOkL (listT s).data.toList
def listOf (s : ByteArray) : ByteArray := if isListT s = true then listT s else ⟨#[]⟩
theorem listT_size (s : ByteArray) : (listT s).size = s.size + 2 := by
  rw [listT, ByteArray.size_append, ByteArray.size_append]
  show 1 + s.size + 1 = _; omega

end Go.Proofs.YtccdgppplkfjfaaDoor
