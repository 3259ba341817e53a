/- Names and types: what the functions of both programs compute. -/
import Derived.Test.YtccdgppplkfjfaaDoorNames
import Derived.Test.YtccdgppplkfjfaaDoorBase
import Derived.Test.YtccdgppplkfjfaaDoorTree
import Derived.Test.YtccdgppplkfjfaaDoorShelf
namespace Go.Proofs.YtccdgppplkfjfaaDoor
open Go Go.Ax Go.Proofs
set_option linter.unusedVariables false
set_option linter.unusedSimpArgs false

theorem inRange_AF (n a b : Int) : Fn 59 [int n, int a, int b] (bool (decide (a ≤ n) && decide (n ≤ b))) := by
  refine AF.intro Tryd.func59 nm59 rfl rfl rfl rfl fun w0 ok0 => ?_
  refine AWP.seq ?_
  refine AWP.region ?_
  refine Y (ass rfl) rfl ?_
  refine AOps.nil ?_
  refine AWP.seq ?_
  refine AWP.region ?_
  refine Y (mv rfl) rfl ?_
  refine Y (mv rfl) rfl ?_
  refine Y (bn rfl rfl BinR.geq rfl) rfl ?_
  refine Y (mv rfl) rfl ?_
  refine AOps.split 10 rfl (fun h => ?_) (fun h => ?_)
  ·
   replace h := of_decide_eq_true h
   refine AOps.on rfl rfl ?_
   refine Y (mv rfl) rfl ?_
   refine AOps.on rfl rfl ?_
   refine Y (mv rfl) rfl ?_
   refine AOps.on rfl rfl ?_
   refine Y (bn rfl rfl BinR.leq rfl) rfl ?_
   refine Y (Yields.pick_true rfl rfl) rfl ?_
   refine Y (ass rfl) rfl ?_
   refine AOps.nil ?_
   refine AWP.ret ⟨.inl rfl, ?_⟩
   exact RetIs.oneV rfl rfl (by (simp [h]) <;> rfl)
  ·
   replace h := of_decide_eq_false h
   refine AOps.off' rfl rfl rfl rfl ?_
   refine AOps.off' rfl rfl rfl rfl ?_
   refine AOps.off' rfl rfl rfl rfl ?_
   refine Y (Yields.pick_false rfl rfl) rfl ?_
   refine Y (ass rfl) rfl ?_
   refine AOps.nil ?_
   refine AWP.ret ⟨.inl rfl, ?_⟩
   exact RetIs.oneV rfl rfl (by (simp [h]) <;> rfl)

theorem isPlain_AF (s : ByteArray) : Fn 96 [str s] (bool (plainT s.data.toList)) := by
  refine AF.intro Tryd.func96 nm96 rfl rfl rfl rfl fun w0 ok0 => ?_
  refine AWP.seq ?_
  refine AWP.region ?_
  refine Y (ass rfl) rfl ?_
  refine AOps.nil ?_
  refine AWP.seq ?_
  refine AWP.region ?_
  refine Y (mv rfl) rfl ?_
  refine Y (bn rfl rfl BinR.seql rfl) rfl ?_
  refine Y (mv rfl) rfl ?_
  refine AOps.split 5 rfl (fun h => ?_) (fun h => ?_)
  ·
   replace h := of_decide_eq_true h
   refine AOps.off' rfl rfl rfl rfl ?_
   refine AOps.off' rfl rfl rfl rfl ?_
   refine Y (Yields.pick_true rfl rfl) rfl ?_
   refine Y (mv rfl) rfl ?_
   refine AOps.off' rfl rfl rfl rfl ?_
   refine AOps.off' rfl rfl rfl rfl ?_
   refine Y (Yields.pick_true rfl rfl) rfl ?_
   refine Y (ass rfl) rfl ?_
   refine AOps.nil ?_
   refine AWP.ret ⟨.inl rfl, ?_⟩
   exact RetIs.oneV rfl rfl (by (simp_all [plainT, strEq]) <;> rfl)
  ·
   replace h := of_decide_eq_false h
   refine AOps.on rfl rfl ?_
   refine Y (mv rfl) rfl ?_
   refine AOps.on rfl rfl ?_
   refine Y (bn rfl rfl BinR.seql rfl) rfl ?_
   refine Y (Yields.pick_false rfl rfl) rfl ?_
   refine Y (mv rfl) rfl ?_
   refine AOps.split 9 rfl (fun h2 => ?_) (fun h2 => ?_)
   ·
    replace h2 := of_decide_eq_true h2
    refine AOps.off' rfl rfl rfl rfl ?_
    refine AOps.off' rfl rfl rfl rfl ?_
    refine Y (Yields.pick_true rfl rfl) rfl ?_
    refine Y (ass rfl) rfl ?_
    refine AOps.nil ?_
    refine AWP.ret ⟨.inl rfl, ?_⟩
    exact RetIs.oneV rfl rfl (by (simp_all [plainT, strEq]) <;> rfl)
   ·
    replace h2 := of_decide_eq_false h2
    refine AOps.on rfl rfl ?_
    refine Y (mv rfl) rfl ?_
    refine AOps.on rfl rfl ?_
    refine Y (bn rfl rfl BinR.seql rfl) rfl ?_
    refine Y (Yields.pick_false rfl rfl) rfl ?_
    refine Y (ass rfl) rfl ?_
    refine AOps.nil ?_
    refine AWP.ret ⟨.inl rfl, ?_⟩
    exact RetIs.oneV rfl rfl (by (simp_all [plainT, strEq]) <;> rfl)

theorem plainType_AF (s : ByteArray) : Fn 111 [str s] (bool (plainT s.data.toList)) := by
  refine AF.intro Tryd.func111 nm111 rfl rfl rfl rfl fun w0 ok0 => ?_
  refine AWP.seq ?_
  refine AWP.region ?_
  refine Y (ass rfl) rfl ?_
  refine AOps.nil ?_
  refine AWP.seq ?_
  refine AWP.region ?_
  refine Y (mv rfl) rfl ?_
  refine Y (bn rfl rfl BinR.seql rfl) rfl ?_
  refine Y (mv rfl) rfl ?_
  refine AOps.split 5 rfl (fun h => ?_) (fun h => ?_)
  ·
   replace h := of_decide_eq_true h
   refine AOps.off' rfl rfl rfl rfl ?_
   refine AOps.off' rfl rfl rfl rfl ?_
   refine Y (Yields.pick_true rfl rfl) rfl ?_
   refine Y (mv rfl) rfl ?_
   refine AOps.off' rfl rfl rfl rfl ?_
   refine AOps.off' rfl rfl rfl rfl ?_
   refine Y (Yields.pick_true rfl rfl) rfl ?_
   refine Y (ass rfl) rfl ?_
   refine AOps.nil ?_
   refine AWP.ret ⟨.inl rfl, ?_⟩
   exact RetIs.oneV rfl rfl (by (simp_all [plainT, strEq]) <;> rfl)
  ·
   replace h := of_decide_eq_false h
   refine AOps.on rfl rfl ?_
   refine Y (mv rfl) rfl ?_
   refine AOps.on rfl rfl ?_
   refine Y (bn rfl rfl BinR.seql rfl) rfl ?_
   refine Y (Yields.pick_false rfl rfl) rfl ?_
   refine Y (mv rfl) rfl ?_
   refine AOps.split 9 rfl (fun h2 => ?_) (fun h2 => ?_)
   ·
    replace h2 := of_decide_eq_true h2
    refine AOps.off' rfl rfl rfl rfl ?_
    refine AOps.off' rfl rfl rfl rfl ?_
    refine Y (Yields.pick_true rfl rfl) rfl ?_
    refine Y (ass rfl) rfl ?_
    refine AOps.nil ?_
    refine AWP.ret ⟨.inl rfl, ?_⟩
    exact RetIs.oneV rfl rfl (by (simp_all [plainT, strEq]) <;> rfl)
   ·
    replace h2 := of_decide_eq_false h2
    refine AOps.on rfl rfl ?_
    refine Y (mv rfl) rfl ?_
    refine AOps.on rfl rfl ?_
    refine Y (bn rfl rfl BinR.seql rfl) rfl ?_
    refine Y (Yields.pick_false rfl rfl) rfl ?_
    refine Y (ass rfl) rfl ?_
    refine AOps.nil ?_
    refine AWP.ret ⟨.inl rfl, ?_⟩
    exact RetIs.oneV rfl rfl (by (simp_all [plainT, strEq]) <;> rfl)

def placeL : List ByteArray → ByteArray → Int → Int
  | [], _, _ => -1
  | t :: l, s, i => if t = s then i else placeL l s (i + 1)
def memB (l : List ByteArray) (s : ByteArray) : Bool := l.any fun t => decide (t = s)
theorem placeL_ge : ∀ (l : List ByteArray) (s : ByteArray) (i : Int), 0 ≤ i → decide (0 ≤ placeL l s i) = memB l s
  | [], s, i, h => by simp [placeL, memB]
  | t :: l, s, i, h => by
    rw [placeL]
    split
    · rename_i e; simp [e, h, memB]
    · rename_i e; rw [placeL_ge l s (i + 1) (by omega)]; simp [memB, e]

theorem placeOf_AF (l : List ByteArray) (sp : List AV) (c : Bool) (s : ByteArray) (hl : l.length ≤ 140737488355328) : Fn 78 [.ro 1 (strs l) sp c, str s] (int (placeL l s 0)) := by
  have hlen := strs_length l
  refine AF.intro Tryd.func78 nm78 rfl rfl rfl rfl fun w0 ok0 => ?_
  refine AWP.seq ?_
  refine AWP.region ?_
  refine Y (ass rfl) rfl ?_
  refine AOps.nil ?_
  refine AWP.seq ?_
  refine AWP.seq ?_
  refine AWP.region ?_
  refine Y (ass rfl) rfl ?_
  refine AOps.nil ?_
  refine AWP.block ?_
  refine AWP.loopV (α := Nat) (fun i : Nat => ⟨[(0, .ro 1 (strs l) sp c), (1, str s), (5, int i)], []⟩) (fun i : Nat => i ≤ l.length ∧ placeL (l.drop i) s i = placeL l s 0) (fun i : Nat => l.length - i) (0) ?_ ?_ ?_
  · exact Leads.rows 0 ⟨rfl, rfl, rfl, trivial⟩
  ·
   show 0 ≤ l.length ∧ placeL (l.drop 0) s 0 = placeL l s 0
   exact ⟨Nat.zero_le _, rfl⟩
  ·
   rintro i hinv
   refine AWP.seq ?_
   refine AWP.seq ?_
   refine AWP.region ?_
   obtain ⟨hi, hp⟩ := hinv
   refine Y (mv rfl) rfl ?_
   refine Y (mv rfl) rfl ?_
   refine Y (Yields.len_ro sl44 rfl) rfl ?_
   refine Y (bn rfl rfl BinR.lss rfl) rfl ?_
   refine AOps.nil ?_
   refine AWP.condT rfl (fun g => ?_) (fun g => ?_)
   ·
    replace g := of_decide_eq_true g
    have hlt : i < l.length := by omega
    obtain ⟨t, ht, hd⟩ := drop_at hlt
    rw [hd, placeL] at hp
    refine AWP.skip ?_
    refine AWP.seq ?_
    refine AWP.block ?_
    refine AWP.seq ?_
    refine AWP.region ?_
    refine Y (mv rfl) rfl ?_
    refine Y (mv rfl) rfl ?_
    refine Y (Yields.idx_roN sl44 rfl rfl rfl rfl (by omega)) rfl ?_
    refine Y (Yields.load_rop_one kd9 rfl (strs_at ht) rfl) rfl ?_
    refine Y (mv rfl) rfl ?_
    refine Y (bn rfl rfl BinR.seql rfl) rfl ?_
    refine AOps.nil ?_
    refine AWP.condT rfl (fun g2 => ?_) (fun g2 => ?_)
    ·
     replace g2 := of_decide_eq_true g2
     refine AWP.seq ?_
     refine AWP.region ?_
     refine Y (mv rfl) rfl ?_
     refine Y (ass rfl) rfl ?_
     refine AOps.nil ?_
     refine AWP.ret ⟨.inl rfl, ?_⟩
     exact RetIs.oneV rfl rfl (by (rw [if_pos g2] at hp; rw [← hp]) <;> rfl)
    ·
     replace g2 := of_decide_eq_false g2
     refine AWP.skip ?_
     refine AWP.region ?_
     refine Y (mv rfl) rfl ?_
     refine Y (bn rfl rfl (BinR.addI (by omega) (by omega)) rfl) rfl ?_
     refine Y (ass rfl) rfl ?_
     refine AOps.nil ?_
     refine ⟨i + 1, ?_, ?_, ?_⟩
     ·
      show l.length - (i + 1) < l.length - i
      omega
     ·
      show (i + 1) ≤ l.length ∧ placeL (l.drop (i + 1)) s (i + 1) = placeL l s 0
      exact ⟨hlt, by rw [← hp, if_neg g2]⟩
     · exact Leads.rows 0 ⟨rfl, rfl, rfl, trivial⟩
   ·
    replace g := of_decide_eq_false g
    rw [List.drop_eq_nil_of_le (by omega), placeL] at hp
    refine AWP.exit ?_
    refine AWP.seq ?_
    refine AWP.region ?_
    refine Y (ass rfl) rfl ?_
    refine AOps.nil ?_
    refine AWP.ret ⟨.inl rfl, ?_⟩
    exact RetIs.oneV rfl rfl (by (rw [← hp]) <;> rfl)

theorem inTexts_AF (l : List ByteArray) (sp : List AV) (c : Bool) (s : ByteArray) (hl : l.length ≤ 140737488355328) : Fn 60 [.ro 1 (strs l) sp c, str s] (bool (memB l s)) := by
  refine AF.intro Tryd.func60 nm60 rfl rfl rfl rfl fun w0 ok0 => ?_
  refine AWP.seq ?_
  refine AWP.region ?_
  refine Y (ass rfl) rfl ?_
  refine AOps.nil ?_
  refine AWP.seq ?_
  refine AWP.region ?_
  refine Y (mv rfl) rfl ?_
  refine Y (mv rfl) rfl ?_
  refine AOps.callro (placeOf_AF l sp c s hl) rfl rfl rfl ?_
  refine Y (bn rfl rfl BinR.geq rfl) rfl ?_
  refine Y (ass rfl) rfl ?_
  refine AOps.nil ?_
  refine AWP.ret ⟨.inl rfl, ?_⟩
  exact RetIs.oneV rfl rfl (by (rw [placeL_ge l s 0 (by omega)]) <;> rfl)

theorem words_AF : Fn 61 [] (.own 1 (strs kwBytes) []) := by
  refine AF.intro Tryd.func61 nm61 rfl rfl rfl rfl fun w0 ok0 => ?_
  refine AWP.seq ?_
  refine AWP.region ?_
  refine Y (ass rfl) rfl ?_
  refine AOps.nil ?_
  refine AWP.seq ?_
  refine AWP.region ?_
  refine AOps.buildSlice sl44 z9 rfl rfl rfl rfl rfl fun b1 => ?_
  refine Y (ass rfl) rfl ?_
  refine AOps.nil ?_
  refine AWP.ret ⟨.inl rfl, ?_⟩
  exact RetIs.ownV (j := 0) rfl rfl rfl (by decide) (by decide) rfl
theorem memB_kw (s : ByteArray) : memB kwBytes s = kwList.contains s.data.toList := by
  have key : ∀ l : List (List UInt8), memB (l.map fun l => ⟨l.toArray⟩) s = l.contains s.data.toList := by
    intro l
    induction l with
    | nil => rfl
    | cons w l ih =>
      rw [List.contains_cons, ← ih]
      simp only [memB, List.map_cons, List.any_cons]
      congr 1
      have : ((⟨w.toArray⟩ : ByteArray) = s) = (s.data.toList = w) := by
        apply propext
        constructor
        · rintro rfl; simp
        · intro h; cases s; simp at h; subst h; rfl
      rw [Bool.eq_iff_iff]
      simp [this]
  exact key kwList

theorem isName_AF (s : ByteArray) (hs : s.size ≤ 140737488355328) : Fn 35 [str s] (bool (isNameL s.data.toList)) := by
  have hlen := data_length s
  refine AF.intro Tryd.func35 nm35 rfl rfl rfl rfl fun w0 ok0 => ?_
  refine AWP.seq ?_
  refine AWP.region ?_
  refine Y (ass rfl) rfl ?_
  refine AOps.nil ?_
  refine AWP.seq ?_
  refine AWP.seq ?_
  refine AWP.region ?_
  refine Y (ass rfl) rfl ?_
  refine AOps.nil ?_
  refine AWP.block ?_
  refine AWP.loopV (α := Nat) (fun i : Nat => ⟨[(0, str s), (3, int i)], []⟩) (fun i : Nat => i ≤ s.size ∧ ∀ j c, j < i → s.data.toList[j]? = some c → lowB c = true ∨ (j ≠ 0 ∧ digB c = true)) (fun i : Nat => s.size - i) (0) ?_ ?_ ?_
  · exact Leads.rows 0 ⟨rfl, rfl, trivial⟩
  ·
   show 0 ≤ s.size ∧ ∀ j c, j < 0 → s.data.toList[j]? = some c → lowB c = true ∨ (j ≠ 0 ∧ digB c = true)
   exact ⟨Nat.zero_le _, fun j c h => by omega⟩
  ·
   rintro i hinv
   refine AWP.seq ?_
   refine AWP.seq ?_
   refine AWP.region ?_
   obtain ⟨hi, hp⟩ := hinv
   refine Y (mv rfl) rfl ?_
   refine Y (mv rfl) rfl ?_
   refine Y (Yields.len_str Tryd.underlying9 rfl) rfl ?_
   refine Y (bn rfl rfl BinR.lss rfl) rfl ?_
   refine AOps.nil ?_
   refine AWP.condT rfl (fun g => ?_) (fun g => ?_)
   ·
    replace g := of_decide_eq_true g
    have hlt : i < s.data.toList.length := by omega
    obtain ⟨c, hc, _⟩ := drop_at hlt
    refine AWP.skip ?_
    refine AWP.seq ?_
    refine AWP.block ?_
    refine AWP.midT [(0, str s), (3, int i), (4, bool (lowB c))] [] ?_ ?_
    ·
     skip
     refine AWP.region ?_
     refine Y (mv rfl) rfl ?_
     refine Y (mv rfl) rfl ?_
     refine Y (Yields.idx_strN Tryd.underlying9 rfl rfl rfl hc) rfl ?_
     refine Y (bn rfl rfl BinR.geq rfl) rfl ?_
     refine Y (mv rfl) rfl ?_
     refine AOps.split 15 rfl (fun h1 => ?_) (fun h1 => ?_)
     ·
      replace h1 := of_decide_eq_true h1
      refine AOps.on rfl rfl ?_
      refine Y (mv rfl) rfl ?_
      refine AOps.on rfl rfl ?_
      refine Y (mv rfl) rfl ?_
      refine AOps.on rfl rfl ?_
      refine Y (Yields.idx_strN Tryd.underlying9 rfl rfl rfl hc) rfl ?_
      refine AOps.on rfl rfl ?_
      refine Y (bn rfl rfl BinR.leq rfl) rfl ?_
      refine Y (Yields.pick_true rfl rfl) rfl ?_
      refine Y (ass rfl) rfl ?_
      refine AOps.nil ?_
      exact Leads.rows 0 ⟨rfl, rfl, (by simp [lowB, h1]; rfl), trivial⟩
     ·
      replace h1 := of_decide_eq_false h1
      refine AOps.off' rfl rfl rfl rfl ?_
      refine AOps.off' rfl rfl rfl rfl ?_
      refine AOps.off' rfl rfl rfl rfl ?_
      refine AOps.off' rfl rfl rfl rfl ?_
      refine Y (Yields.pick_false rfl rfl) rfl ?_
      refine Y (ass rfl) rfl ?_
      refine AOps.nil ?_
      exact Leads.rows 0 ⟨rfl, rfl, (by simp [lowB, h1]; rfl), trivial⟩
    ·
     skip
     refine AWP.seq ?_
     refine AWP.region ?_
     refine Y (mv rfl) rfl ?_
     refine Y (Yields.not rfl) rfl ?_
     refine Y (mv rfl) rfl ?_
     refine AOps.split 23 rfl (fun h1 => ?_) (fun h1 => ?_)
     ·
      skip
      have h1 : lowB c = false := by simpa using h1
      refine AOps.on rfl rfl ?_
      refine Y (mv rfl) rfl ?_
      refine AOps.on rfl rfl ?_
      refine Y (bn rfl rfl BinR.eql rfl) rfl ?_
      refine AOps.on rfl rfl ?_
      refine Y (mv rfl) rfl ?_
      refine AOps.split 26 rfl (fun h2 => ?_) (fun h2 => ?_)
      ·
       replace h2 := eq_of_beq h2
       refine AOps.off' rfl rfl rfl rfl ?_
       refine AOps.off' rfl rfl rfl rfl ?_
       refine AOps.off' rfl rfl rfl rfl ?_
       refine AOps.off' rfl rfl rfl rfl ?_
       refine AOps.on rfl rfl ?_
       refine Y (Yields.pick_true rfl rfl) rfl ?_
       refine AOps.on rfl rfl ?_
       refine Y (mv rfl) rfl ?_
       refine AOps.off' rfl rfl rfl rfl ?_
       refine AOps.off' rfl rfl rfl rfl ?_
       refine AOps.off' rfl rfl rfl rfl ?_
       refine AOps.off' rfl rfl rfl rfl ?_
       refine AOps.on rfl rfl ?_
       refine Y (Yields.pick_true rfl rfl) rfl ?_
       refine Y (Yields.pick_true rfl rfl) rfl ?_
       refine AOps.nil ?_
       refine AWP.cond rfl (fun _ => ?_) (fun h => absurd h (by decide))
       refine AWP.seq ?_
       refine AWP.region ?_
       refine Y (ass rfl) rfl ?_
       refine AOps.nil ?_
       refine AWP.ret ⟨.inl rfl, ?_⟩
       exact RetIs.oneV rfl rfl (by (rw [isName_bad hc h1 (.inl (by omega))]) <;> rfl)
      ·
       replace h2 := ne_of_beq_false h2
       refine AOps.on rfl rfl ?_
       refine Y (mv rfl) rfl ?_
       refine AOps.on rfl rfl ?_
       refine Y (mv rfl) rfl ?_
       refine AOps.on rfl rfl ?_
       refine Y (Yields.idx_strN Tryd.underlying9 rfl rfl rfl hc) rfl ?_
       refine AOps.on rfl rfl ?_
       refine Y (bn rfl rfl BinR.lss rfl) rfl ?_
       refine AOps.on rfl rfl ?_
       refine Y (Yields.pick_false rfl rfl) rfl ?_
       refine AOps.on rfl rfl ?_
       refine Y (mv rfl) rfl ?_
       refine AOps.split 32 rfl (fun h3 => ?_) (fun h3 => ?_)
       ·
        replace h3 := of_decide_eq_true h3
        refine AOps.off' rfl rfl rfl rfl ?_
        refine AOps.off' rfl rfl rfl rfl ?_
        refine AOps.off' rfl rfl rfl rfl ?_
        refine AOps.off' rfl rfl rfl rfl ?_
        refine AOps.on rfl rfl ?_
        refine Y (Yields.pick_true rfl rfl) rfl ?_
        refine Y (Yields.pick_true rfl rfl) rfl ?_
        refine AOps.nil ?_
        refine AWP.cond rfl (fun _ => ?_) (fun h => absurd h (by decide))
        refine AWP.seq ?_
        refine AWP.region ?_
        refine Y (ass rfl) rfl ?_
        refine AOps.nil ?_
        refine AWP.ret ⟨.inl rfl, ?_⟩
        exact RetIs.oneV rfl rfl (by (rw [isName_bad hc h1 (.inr (by simp [digB]; omega))]) <;> rfl)
       ·
        replace h3 := of_decide_eq_false h3
        refine AOps.on rfl rfl ?_
        refine Y (mv rfl) rfl ?_
        refine AOps.on rfl rfl ?_
        refine Y (mv rfl) rfl ?_
        refine AOps.on rfl rfl ?_
        refine Y (Yields.idx_strN Tryd.underlying9 rfl rfl rfl hc) rfl ?_
        refine AOps.on rfl rfl ?_
        refine Y (bn rfl rfl BinR.gtr rfl) rfl ?_
        refine AOps.on rfl rfl ?_
        refine Y (Yields.pick_false rfl rfl) rfl ?_
        refine Y (Yields.pick_true rfl rfl) rfl ?_
        refine AOps.nil ?_
        refine AWP.condT rfl (fun h4 => ?_) (fun h4 => ?_)
        ·
         replace h4 := of_decide_eq_true h4
         refine AWP.seq ?_
         refine AWP.region ?_
         refine Y (ass rfl) rfl ?_
         refine AOps.nil ?_
         refine AWP.ret ⟨.inl rfl, ?_⟩
         exact RetIs.oneV rfl rfl (by (rw [isName_bad hc h1 (.inr (by simp [digB]; omega))]) <;> rfl)
        ·
         replace h4 := of_decide_eq_false h4
         refine AWP.skip ?_
         refine AWP.region ?_
         refine Y (mv rfl) rfl ?_
         refine Y (bn rfl rfl (BinR.addI (by omega) (by omega)) rfl) rfl ?_
         refine Y (ass rfl) rfl ?_
         refine AOps.nil ?_
         refine ⟨i + 1, ?_, ?_, ?_⟩
         ·
          show s.size - (i + 1) < s.size - i
          omega
         ·
          show (i + 1) ≤ s.size ∧ ∀ j c, j < (i + 1) → s.data.toList[j]? = some c → lowB c = true ∨ (j ≠ 0 ∧ digB c = true)
          refine ⟨by omega, fun j d hj hd => ?_⟩
          by_cases e : j = i
          · subst e; rw [hc] at hd; cases hd; exact .inr ⟨by omega, by simp [digB]; omega⟩
          · exact hp j d (by omega) hd
         · exact Leads.rows 0 ⟨rfl, rfl, trivial⟩
     ·
      skip
      refine AOps.off' rfl rfl rfl rfl ?_
      refine AOps.off' rfl rfl rfl rfl ?_
      refine AOps.off' rfl rfl rfl rfl ?_
      refine AOps.offU rfl rfl rfl ?_
      refine AOps.offU rfl rfl rfl ?_
      refine AOps.offU rfl rfl rfl ?_
      refine AOps.offU rfl rfl rfl ?_
      refine AOps.off' rfl rfl rfl rfl ?_
      refine AOps.off' rfl rfl rfl rfl ?_
      refine AOps.offU rfl rfl rfl ?_
      refine AOps.offU rfl rfl rfl ?_
      refine AOps.offU rfl rfl rfl ?_
      refine AOps.offU rfl rfl rfl ?_
      refine AOps.off' rfl rfl rfl rfl ?_
      refine Y (Yields.pick_false rfl rfl) rfl ?_
      refine AOps.nil ?_
      refine AWP.cond rfl (fun h => absurd h (by decide)) (fun _ => ?_)
      refine AWP.skip ?_
      refine AWP.region ?_
      refine Y (mv rfl) rfl ?_
      refine Y (bn rfl rfl (BinR.addI (by omega) (by omega)) rfl) rfl ?_
      refine Y (ass rfl) rfl ?_
      refine AOps.nil ?_
      refine ⟨i + 1, ?_, ?_, ?_⟩
      ·
       show s.size - (i + 1) < s.size - i
       omega
      ·
       show (i + 1) ≤ s.size ∧ ∀ j c, j < (i + 1) → s.data.toList[j]? = some c → lowB c = true ∨ (j ≠ 0 ∧ digB c = true)
       refine ⟨by omega, fun j d hj hd => ?_⟩
       by_cases e : j = i
       · subst e; rw [hc] at hd; cases hd; exact .inl (by simpa using h1)
       · exact hp j d (by omega) hd
      · exact Leads.rows 0 ⟨rfl, rfl, trivial⟩
   ·
    replace g := of_decide_eq_false g
    have hall : ∀ j c, s.data.toList[j]? = some c → lowB c = true ∨ (j ≠ 0 ∧ digB c = true) := fun j c hc => hp j c (by have := (List.getElem?_eq_some_iff.1 hc).1; omega) hc
    have hend := isName_end hall
    rw [hlen] at hend
    refine AWP.exit ?_
    refine AWP.seq ?_
    refine AWP.region ?_
    refine Y (mv rfl) rfl ?_
    refine Y (Yields.len_str Tryd.underlying9 rfl) rfl ?_
    refine AOps.callro (inRange_AF s.size 1 8) rfl rfl rfl ?_
    refine Y (mv rfl) rfl ?_
    refine AOps.split 42 rfl (fun h5 => ?_) (fun h5 => ?_)
    ·
     skip
     have h5' : (decide (1 ≤ s.size) && decide (s.size ≤ 8)) = true := by simp at h5 ⊢; omega
     refine AOps.on rfl rfl ?_
     refine AOps.callv words_AF rfl rfl trivial (Free.own (freeL_strs _) trivial) (View.own (viewL_refl rfl) (viewL_refl rfl)) ?_
     refine AOps.on rfl rfl ?_
     refine Y (mv rfl) rfl ?_
     refine AOps.on rfl rfl ?_
     refine AOps.callro (inTexts_AF kwBytes [] false s (by decide)) rfl rfl rfl ?_
     refine AOps.on rfl rfl ?_
     refine Y (Yields.not rfl) rfl ?_
     refine Y (Yields.pick_true rfl rfl) rfl ?_
     refine Y (ass rfl) rfl ?_
     refine AOps.nil ?_
     refine AWP.ret ⟨.inl rfl, ?_⟩
     exact RetIs.oneV rfl rfl (by (rw [hend, h5', memB_kw]; simp) <;> rfl)
    ·
     skip
     have h5' : (decide (1 ≤ s.size) && decide (s.size ≤ 8)) = false := by simp at h5 ⊢; omega
     refine AOps.off' rfl rfl rfl rfl ?_
     refine AOps.off' rfl rfl rfl rfl ?_
     refine AOps.off' rfl rfl rfl rfl ?_
     refine AOps.off' rfl rfl rfl rfl ?_
     refine Y (Yields.pick_false rfl rfl) rfl ?_
     refine Y (ass rfl) rfl ?_
     refine AOps.nil ?_
     refine AWP.ret ⟨.inl rfl, ?_⟩
     exact RetIs.oneV rfl rfl (by (rw [hend, h5']; simp) <;> rfl)

theorem brB_data {s : ByteArray} (h : ¬ 2 ≤ s.size) : brB s.data.toList = false := by
  simp only [brB, data_length, decide_eq_false h, Bool.false_and]
theorem brB_first {s : ByteArray} {c : UInt8} (hc : s.data.toList[0]? = some c) (h : ¬ (c.toNat : Int) = 91) : brB s.data.toList = false := by
  have : ¬ c = 91 := fun e => h (by subst e; rfl)
  simp [brB, hc, this]
theorem brB_last {s : ByteArray} {c : UInt8} (hc : s.data.toList[s.size - 1]? = some c) (h : ¬ (c.toNat : Int) = 93) : brB s.data.toList = false := by
  have : ¬ c = 93 := fun e => h (by subst e; rfl)
  simp [brB, data_length, hc, this]
theorem u8_of {c : UInt8} {n : UInt8} (h : (c.toNat : Int) = n.toNat) : c = n := UInt8.toNat_inj.1 (by omega)
theorem brB_yes {s : ByteArray} {c d : UInt8} (h2 : 2 ≤ s.size) (hc : s.data.toList[0]? = some c) (h : (c.toNat : Int) = 91) (hd : s.data.toList[s.size - 1]? = some d) (h' : (d.toNat : Int) = 93) : brB s.data.toList = true := by
  have e1 : c = 91 := u8_of h
  have e2 : d = 93 := u8_of h'
  simp [brB, data_length, h2, hc, hd, e1, e2]
theorem inner_data (s : ByteArray) : (s.extract 1 (s.size - 1)).data.toList = inner s.data.toList := by
  rw [data_extract, inner, data_length]
theorem byte_at {s : ByteArray} {i : Nat} (h : i < s.size) : ∃ c, s.data.toList[i]? = some c := ⟨s.data.toList[i]'(by rw [data_length]; exact h), List.getElem?_eq_getElem _⟩
theorem coreL_size : ∀ (l : List UInt8) (n : Nat), (coreL l n).1.length ≤ l.length := by
  intro l
  induction hl : l.length using Nat.strongRecOn generalizing l with
  | _ k ih =>
    intro n
    by_cases h : brB l = true
    · rw [coreL_br h]
      have := inner_length h
      have := ih (inner l).length (by omega) (inner l) rfl (n + 1)
      omega
    · rw [coreL_end (by simpa using h)]; exact Nat.le_of_eq hl
def bytesOf (l : List UInt8) : ByteArray := ⟨l.toArray⟩
theorem bytesOf_data (s : ByteArray) : bytesOf s.data.toList = s := by cases s; rfl
theorem data_bytesOf (l : List UInt8) : (bytesOf l).data.toList = l := by simp [bytesOf]

theorem coreOf_AF (s : ByteArray) (hs : s.size ≤ 140737488355328) : Fn 95 [str s] (.tup [str (bytesOf (coreL s.data.toList 0).1), int (coreL s.data.toList 0).2]) := by
  refine AF.intro Tryd.func95 nm95 rfl rfl rfl rfl fun w0 ok0 => ?_
  refine AWP.seq ?_
  refine AWP.region ?_
  refine Y (ass rfl) rfl ?_
  refine Y (ass rfl) rfl ?_
  refine AOps.nil ?_
  refine AWP.seq ?_
  refine AWP.region ?_
  refine Y (ass rfl) rfl ?_
  refine AOps.nil ?_
  refine AWP.seq ?_
  refine AWP.block ?_
  refine AWP.loopV (α := ByteArray × Nat) (fun pp : ByteArray × Nat => match pp with | (t, n) => ⟨[(0, str t), (4, int n)], []⟩) (fun pp : ByteArray × Nat => match pp with | (t, n) => coreL t.data.toList n = coreL s.data.toList 0 ∧ t.size ≤ s.size ∧ n + t.size ≤ s.size) (fun pp : ByteArray × Nat => match pp with | (t, n) => t.size) ((s, 0)) ?_ ?_ ?_
  · exact Leads.rows 0 ⟨rfl, rfl, trivial⟩
  ·
   show coreL s.data.toList 0 = coreL s.data.toList 0 ∧ s.size ≤ s.size ∧ 0 + s.size ≤ s.size
   exact ⟨rfl, Nat.le_refl _, by omega⟩
  ·
   rintro ⟨t, n⟩ hinv
   replace hinv : coreL t.data.toList n = coreL s.data.toList 0 ∧ t.size ≤ s.size ∧ n + t.size ≤ s.size := hinv
   show AWP _ _ _ _ ⟨[(0, str t), (4, int n)], []⟩
   refine AWP.seq ?_
   refine AWP.seq ?_
   refine AWP.region ?_
   obtain ⟨hp, hsz, hn⟩ := hinv
   refine Y (mv rfl) rfl ?_
   refine Y (Yields.len_str Tryd.underlying9 rfl) rfl ?_
   refine Y (bn rfl rfl BinR.geq rfl) rfl ?_
   refine Y (mv rfl) rfl ?_
   refine AOps.split 8 rfl (fun h2 => ?_) (fun h2 => ?_)
   ·
    replace h2 := of_decide_eq_true h2
    obtain ⟨c, hc⟩ := byte_at (s := t) (i := 0) (by omega)
    refine AOps.on rfl rfl ?_
    refine Y (mv rfl) rfl ?_
    refine AOps.on rfl rfl ?_
    refine Y (Yields.idx_strN Tryd.underlying9 rfl rfl (j := 0) rfl hc) rfl ?_
    refine AOps.on rfl rfl ?_
    refine Y (bn rfl rfl BinR.eql rfl) rfl ?_
    refine Y (Yields.pick_true rfl rfl) rfl ?_
    refine Y (mv rfl) rfl ?_
    refine AOps.split 13 rfl (fun h3 => ?_) (fun h3 => ?_)
    ·
     replace h3 := eq_of_beq h3
     obtain ⟨d, hd⟩ := byte_at (s := t) (i := t.size - 1) (by omega)
     refine AOps.on rfl rfl ?_
     refine Y (mv rfl) rfl ?_
     refine AOps.on rfl rfl ?_
     refine Y (mv rfl) rfl ?_
     refine AOps.on rfl rfl ?_
     refine Y (Yields.len_str Tryd.underlying9 rfl) rfl ?_
     refine AOps.on rfl rfl ?_
     refine Y (bn rfl rfl (BinR.subI (by omega) (by omega)) rfl) rfl ?_
     refine AOps.on rfl rfl ?_
     refine Y (Yields.idx_strN Tryd.underlying9 rfl rfl (j := t.size - 1) (by omega) hd) rfl ?_
     refine AOps.on rfl rfl ?_
     refine Y (bn rfl rfl BinR.eql rfl) rfl ?_
     refine Y (Yields.pick_true rfl rfl) rfl ?_
     refine AOps.nil ?_
     refine AWP.condT rfl (fun h4 => ?_) (fun h4 => ?_)
     ·
      replace h4 := eq_of_beq h4
      have hbr := brB_yes (by omega) hc h3 hd h4
      rw [coreL_br hbr] at hp
      have hin := inner_length hbr
      rw [data_length] at hin
      have hil : (t.extract 1 (t.size - 1)).size = (inner t.data.toList).length := by rw [← inner_data, data_length]
      refine AWP.skip ?_
      refine AWP.block ?_
      refine AWP.seq ?_
      refine AWP.region ?_
      refine Y (mv rfl) rfl ?_
      refine Y (mv rfl) rfl ?_
      refine Y (Yields.len_str Tryd.underlying9 rfl) rfl ?_
      refine Y (bn rfl rfl (BinR.subI (by omega) (by omega)) rfl) rfl ?_
      refine Y (Yields.slice_str Tryd.underlying9 rfl (l := 1) (u := t.size - 1) ⟨.i64, rfl⟩ ⟨.i64, by show some (AV.val (Value.int .i64 _)) = _; congr 3; omega⟩ (by omega) (by omega)) rfl ?_
      refine Y (ass rfl) rfl ?_
      refine AOps.nil ?_
      refine AWP.region ?_
      refine Y (mv rfl) rfl ?_
      refine Y (bn rfl rfl (BinR.addI (by omega) (by omega)) rfl) rfl ?_
      refine Y (ass rfl) rfl ?_
      refine AOps.nil ?_
      refine ⟨(t.extract 1 (t.size - 1), n + 1), ?_, ?_, ?_⟩
      ·
       show (t.extract 1 (t.size - 1)).size < t.size
       omega
      ·
       show coreL (t.extract 1 (t.size - 1)).data.toList (n + 1) = coreL s.data.toList 0 ∧ (t.extract 1 (t.size - 1)).size ≤ s.size ∧ (n + 1) + (t.extract 1 (t.size - 1)).size ≤ s.size
       exact ⟨by rw [inner_data]; exact hp, by omega, by omega⟩
      · exact Leads.rows 0 ⟨rfl, rfl, trivial⟩
     ·
      replace h4 := ne_of_beq_false h4
      have hbr := brB_last hd h4
      rw [coreL_end hbr] at hp
      refine AWP.exit ?_
      refine AWP.seq ?_
      refine AWP.region ?_
      refine Y (mv rfl) rfl ?_
      refine Y (mv rfl) rfl ?_
      refine Y (ass rfl) rfl ?_
      refine Y (ass rfl) rfl ?_
      refine AOps.nil ?_
      refine AWP.ret ⟨.inl rfl, ?_⟩
      exact RetIs.twoV rfl rfl rfl (by (rw [← hp]; simp only [bytesOf_data]) <;> rfl)
    ·
     replace h3 := ne_of_beq_false h3
     have hbr := brB_first hc h3
     rw [coreL_end hbr] at hp
     refine AOps.off' rfl rfl rfl rfl ?_
     refine AOps.off' rfl rfl rfl rfl ?_
     refine AOps.off' rfl rfl rfl rfl ?_
     refine AOps.off' rfl rfl rfl rfl ?_
     refine AOps.off' rfl rfl rfl rfl ?_
     refine AOps.off' rfl rfl rfl rfl ?_
     refine Y (Yields.pick_false rfl rfl) rfl ?_
     refine AOps.nil ?_
     refine AWP.cond rfl (fun h => absurd h (by decide)) (fun _ => ?_)
     refine AWP.exit ?_
     refine AWP.seq ?_
     refine AWP.region ?_
     refine Y (mv rfl) rfl ?_
     refine Y (mv rfl) rfl ?_
     refine Y (ass rfl) rfl ?_
     refine Y (ass rfl) rfl ?_
     refine AOps.nil ?_
     refine AWP.ret ⟨.inl rfl, ?_⟩
     exact RetIs.twoV rfl rfl rfl (by (rw [← hp]; simp only [bytesOf_data]) <;> rfl)
   ·
    replace h2 := of_decide_eq_false h2
    have hbr := brB_data (s := t) (by omega)
    rw [coreL_end hbr] at hp
    refine AOps.off' rfl rfl rfl rfl ?_
    refine AOps.off' rfl rfl rfl rfl ?_
    refine AOps.off' rfl rfl rfl rfl ?_
    refine Y (Yields.pick_false rfl rfl) rfl ?_
    refine Y (mv rfl) rfl ?_
    refine AOps.off' rfl rfl rfl rfl ?_
    refine AOps.off' rfl rfl rfl rfl ?_
    refine AOps.off' rfl rfl rfl rfl ?_
    refine AOps.off' rfl rfl rfl rfl ?_
    refine AOps.off' rfl rfl rfl rfl ?_
    refine AOps.off' rfl rfl rfl rfl ?_
    refine Y (Yields.pick_false rfl rfl) rfl ?_
    refine AOps.nil ?_
    refine AWP.cond rfl (fun h => absurd h (by decide)) (fun _ => ?_)
    refine AWP.exit ?_
    refine AWP.seq ?_
    refine AWP.region ?_
    refine Y (mv rfl) rfl ?_
    refine Y (mv rfl) rfl ?_
    refine Y (ass rfl) rfl ?_
    refine Y (ass rfl) rfl ?_
    refine AOps.nil ?_
    refine AWP.ret ⟨.inl rfl, ?_⟩
    exact RetIs.twoV rfl rfl rfl (by (rw [← hp]; simp only [bytesOf_data]) <;> rfl)

theorem sTypeOk_AF (s : ByteArray) (hs : s.size ≤ 140737488355328) : Fn 85 [str s] (bool (typeOkL s.data.toList)) := by
  have hcl := coreL_size s.data.toList 0
  rw [data_length] at hcl
  have hcs : (bytesOf (coreL s.data.toList 0).1).size ≤ 140737488355328 := by rw [← data_length, data_bytesOf]; omega
  refine AF.intro Tryd.func85 nm85 rfl rfl rfl rfl fun w0 ok0 => ?_
  refine AWP.seq ?_
  refine AWP.region ?_
  refine Y (ass rfl) rfl ?_
  refine AOps.nil ?_
  refine AWP.seq ?_
  refine AWP.region ?_
  refine Y (mv rfl) rfl ?_
  refine AOps.callro (coreOf_AF s hs) rfl rfl rfl ?_
  refine Y (mv rfl) rfl ?_
  refine Y (Yields.extract rfl rfl) rfl ?_
  refine Y (Yields.extract rfl rfl) rfl ?_
  refine Y (ass rfl) rfl ?_
  refine Y (ass rfl) rfl ?_
  refine AOps.nil ?_
  refine AWP.seq ?_
  refine AWP.region ?_
  refine Y (mv rfl) rfl ?_
  refine Y (bn rfl rfl BinR.leq rfl) rfl ?_
  refine Y (mv rfl) rfl ?_
  refine AOps.split 12 rfl (fun h => ?_) (fun h => ?_)
  ·
   replace h := of_decide_eq_true h
   have h' : (coreL s.data.toList 0).2 ≤ 2 := by omega
   refine AOps.on rfl rfl ?_
   refine Y (mv rfl) rfl ?_
   refine AOps.on rfl rfl ?_
   refine AOps.callro (isPlain_AF _) rfl rfl rfl ?_
   refine AOps.on rfl rfl ?_
   refine Y (mv rfl) rfl ?_
   refine AOps.split 15 rfl (fun h2 => ?_) (fun h2 => ?_)
   ·
    skip
    rw [data_bytesOf] at h2
    refine AOps.off' rfl rfl rfl rfl ?_
    refine AOps.off' rfl rfl rfl rfl ?_
    refine AOps.on rfl rfl ?_
    refine Y (Yields.pick_true rfl rfl) rfl ?_
    refine Y (Yields.pick_true rfl rfl) rfl ?_
    refine Y (ass rfl) rfl ?_
    refine AOps.nil ?_
    refine AWP.ret ⟨.inl rfl, ?_⟩
    exact RetIs.oneV rfl rfl (by (simp [typeOkL, h', h2]) <;> rfl)
   ·
    skip
    rw [data_bytesOf] at h2
    refine AOps.on rfl rfl ?_
    refine Y (mv rfl) rfl ?_
    refine AOps.on rfl rfl ?_
    refine AOps.callro (isName_AF _ hcs) rfl rfl rfl ?_
    refine AOps.on rfl rfl ?_
    refine Y (Yields.pick_false rfl rfl) rfl ?_
    refine Y (Yields.pick_true rfl rfl) rfl ?_
    refine Y (ass rfl) rfl ?_
    refine AOps.nil ?_
    refine AWP.ret ⟨.inl rfl, ?_⟩
    exact RetIs.oneV rfl rfl (by (rw [data_bytesOf]; simp [typeOkL, h', h2]) <;> rfl)
  ·
   replace h := of_decide_eq_false h
   have h' : ¬ (coreL s.data.toList 0).2 ≤ 2 := by omega
   refine AOps.off' rfl rfl rfl rfl ?_
   refine AOps.off' rfl rfl rfl rfl ?_
   refine AOps.off' rfl rfl rfl rfl ?_
   refine AOps.offU rfl rfl rfl ?_
   refine AOps.offU rfl rfl rfl ?_
   refine AOps.off' rfl rfl rfl rfl ?_
   refine Y (Yields.pick_false rfl rfl) rfl ?_
   refine Y (ass rfl) rfl ?_
   refine AOps.nil ?_
   refine AWP.ret ⟨.inl rfl, ?_⟩
   exact RetIs.oneV rfl rfl (by (simp [typeOkL, h']) <;> rfl)
end Go.Proofs.YtccdgppplkfjfaaDoor
