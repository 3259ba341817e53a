/- Values that are ones: ValueOk of both programs. -/
import Derived.Test.YtccdgppplkfjfaaGreatRd
import Derived.Test.YtccdgppplkfjfaaGreatTy
namespace Go.Proofs.YtccdgppplkfjfaaGreat
open Go Go.Ax Go.Proofs
set_option linter.unusedVariables false
set_option linter.unusedSimpArgs false
set_option maxRecDepth 20000

def wordB (c : UInt8) : Bool := decide ((32 : Int) ≤ c.toNat) && decide ((c.toNat : Int) ≤ 126) && !decide ((c.toNat : Int) = 39)
def isWordL (l : List UInt8) : Bool := l.all wordB && decide (l.length ≤ 20)
theorem isWord_bad {l : List UInt8} {i : Nat} {c : UInt8} (hc : l[i]? = some c) (h : wordB c = false) : isWordL l = false := by
  have : l.all wordB = false := by rw [List.all_eq_false]; exact ⟨c, List.mem_of_getElem? hc, by simp [h]⟩
  simp [isWordL, this]
theorem isWord_end {l : List UInt8} (h : ∀ (i : Nat) (c : UInt8), l[i]? = some c → wordB c = true) : isWordL l = decide (l.length ≤ 20) := by
  have : l.all wordB = true := by
    rw [List.all_eq_true]
    intro c hc
    obtain ⟨i, hi⟩ := List.getElem?_of_mem hc
    exact h i c hi
  simp [isWordL, this]

theorem isWord_AF (s : ByteArray) (hs : s.size ≤ 140737488355328) : Fn 47 [str s] (bool (isWordL s.data.toList)) := by
  have hlen := data_length s
  refine AF.intro Tryz.func47 nm47 rfl rfl rfl rfl fun w0 ok0 => ?_
  refine AWP.seq ?_
  refine AWP.region ?_
  refine Y (ass rfl) rfl ?_
  refine AOps.nil ?_
  refine AWP.seq ?_
  refine AWP.seq ?_
  refine AWP.region ?_
  refine Y (ass rfl) rfl ?_
  refine AOps.nil ?_
  refine AWP.block ?_
  refine AWP.loopV (α := Nat) (fun i : Nat => ⟨[(0, str s), (3, int i)], []⟩) (fun i : Nat => i ≤ s.size ∧ ∀ j c, j < i → s.data.toList[j]? = some c → wordB c = true) (fun i : Nat => s.size - i) (0) ?_ ?_ ?_
  · exact Leads.rows 0 ⟨rfl, rfl, trivial⟩
  ·
   show 0 ≤ s.size ∧ ∀ j c, j < 0 → s.data.toList[j]? = some c → wordB c = true
   exact ⟨Nat.zero_le _, fun j c h => by omega⟩
  ·
   rintro i hinv
   refine AWP.seq ?_
   refine AWP.seq ?_
   refine AWP.region ?_
   obtain ⟨hi, hp⟩ := hinv
   refine Y (mv rfl) rfl ?_
   refine Y (mv rfl) rfl ?_
   refine Y (Yields.len_str Tryz.underlying9 rfl) rfl ?_
   refine Y (bn rfl rfl BinR.lss rfl) rfl ?_
   refine AOps.nil ?_
   refine AWP.condT rfl (fun g => ?_) (fun g => ?_)
   ·
    replace g := of_decide_eq_true g
    have hlt : i < s.data.toList.length := by omega
    obtain ⟨c, hc, _⟩ := drop_at hlt
    refine AWP.skip ?_
    refine AWP.seq ?_
    refine AWP.block ?_
    refine AWP.seq ?_
    refine AWP.region ?_
    refine Y (mv rfl) rfl ?_
    refine Y (mv rfl) rfl ?_
    refine Y (Yields.idx_strN Tryz.underlying9 rfl rfl rfl hc) rfl ?_
    refine Y (bn rfl rfl BinR.lss rfl) rfl ?_
    refine Y (mv rfl) rfl ?_
    refine AOps.split 14 rfl (fun h1 => ?_) (fun h1 => ?_)
    ·
     replace h1 := of_decide_eq_true h1
     refine AOps.off' rfl rfl rfl rfl ?_
     refine AOps.off' rfl rfl rfl rfl ?_
     refine AOps.off' rfl rfl rfl rfl ?_
     refine AOps.off' rfl rfl rfl rfl ?_
     refine Y (Yields.pick_true rfl rfl) rfl ?_
     refine Y (mv rfl) rfl ?_
     refine AOps.off' rfl rfl rfl rfl ?_
     refine AOps.off' rfl rfl rfl rfl ?_
     refine AOps.off' rfl rfl rfl rfl ?_
     refine AOps.off' rfl rfl rfl rfl ?_
     refine Y (Yields.pick_true rfl rfl) rfl ?_
     refine AOps.nil ?_
     refine AWP.cond rfl (fun _ => ?_) (fun h => absurd h (by decide))
     refine AWP.seq ?_
     refine AWP.region ?_
     refine Y (ass rfl) rfl ?_
     refine AOps.nil ?_
     refine AWP.ret ⟨.inl rfl, ?_⟩
     exact RetIs.oneV rfl rfl (by (rw [isWord_bad hc (by simp [wordB]; omega)]) <;> rfl)
    ·
     replace h1 := of_decide_eq_false h1
     refine AOps.on rfl rfl ?_
     refine Y (mv rfl) rfl ?_
     refine AOps.on rfl rfl ?_
     refine Y (mv rfl) rfl ?_
     refine AOps.on rfl rfl ?_
     refine Y (Yields.idx_strN Tryz.underlying9 rfl rfl rfl hc) rfl ?_
     refine AOps.on rfl rfl ?_
     refine Y (bn rfl rfl BinR.gtr rfl) rfl ?_
     refine Y (Yields.pick_false rfl rfl) rfl ?_
     refine Y (mv rfl) rfl ?_
     refine AOps.split 20 rfl (fun h2 => ?_) (fun h2 => ?_)
     ·
      replace h2 := of_decide_eq_true h2
      refine AOps.off' rfl rfl rfl rfl ?_
      refine AOps.off' rfl rfl rfl rfl ?_
      refine AOps.off' rfl rfl rfl rfl ?_
      refine AOps.off' rfl rfl rfl rfl ?_
      refine Y (Yields.pick_true rfl rfl) rfl ?_
      refine AOps.nil ?_
      refine AWP.cond rfl (fun _ => ?_) (fun h => absurd h (by decide))
      refine AWP.seq ?_
      refine AWP.region ?_
      refine Y (ass rfl) rfl ?_
      refine AOps.nil ?_
      refine AWP.ret ⟨.inl rfl, ?_⟩
      exact RetIs.oneV rfl rfl (by (rw [isWord_bad hc (by simp [wordB]; omega)]) <;> rfl)
     ·
      replace h2 := of_decide_eq_false h2
      refine AOps.on rfl rfl ?_
      refine Y (mv rfl) rfl ?_
      refine AOps.on rfl rfl ?_
      refine Y (mv rfl) rfl ?_
      refine AOps.on rfl rfl ?_
      refine Y (Yields.idx_strN Tryz.underlying9 rfl rfl rfl hc) rfl ?_
      refine AOps.on rfl rfl ?_
      refine Y (bn rfl rfl BinR.eql rfl) rfl ?_
      refine Y (Yields.pick_false rfl rfl) rfl ?_
      refine AOps.nil ?_
      refine AWP.condT rfl (fun h3 => ?_) (fun h3 => ?_)
      ·
       replace h3 := eq_of_beq h3
       refine AWP.seq ?_
       refine AWP.region ?_
       refine Y (ass rfl) rfl ?_
       refine AOps.nil ?_
       refine AWP.ret ⟨.inl rfl, ?_⟩
       exact RetIs.oneV rfl rfl (by (rw [isWord_bad hc (by simp [wordB]; omega)]) <;> rfl)
      ·
       replace h3 := ne_of_beq_false h3
       refine AWP.skip ?_
       refine AWP.region ?_
       refine Y (mv rfl) rfl ?_
       refine Y (bn rfl rfl (BinR.addI (by omega) (by omega)) rfl) rfl ?_
       refine Y (ass rfl) rfl ?_
       refine AOps.nil ?_
       refine ⟨i + 1, ?_, ?_, ?_⟩
       ·
        show s.size - (i + 1) < s.size - i
        omega
       ·
        show (i + 1) ≤ s.size ∧ ∀ j c, j < (i + 1) → s.data.toList[j]? = some c → wordB c = true
        refine ⟨by omega, fun j d hj hd => ?_⟩
        by_cases e : j = i
        · subst e; rw [hc] at hd; cases hd; simp [wordB]; omega
        · exact hp j d (by omega) hd
       · exact Leads.rows 0 ⟨rfl, rfl, trivial⟩
   ·
    replace g := of_decide_eq_false g
    have hall : ∀ j c, s.data.toList[j]? = some c → wordB c = true := fun j c hc => hp j c (by have := (List.getElem?_eq_some_iff.1 hc).1; omega) hc
    refine AWP.exit ?_
    refine AWP.seq ?_
    refine AWP.region ?_
    refine Y (mv rfl) rfl ?_
    refine Y (Yields.len_str Tryz.underlying9 rfl) rfl ?_
    refine Y (bn rfl rfl BinR.leq rfl) rfl ?_
    refine Y (ass rfl) rfl ?_
    refine AOps.nil ?_
    refine AWP.ret ⟨.inl rfl, ?_⟩
    exact RetIs.oneV rfl rfl (by (rw [isWord_end hall, hlen]; simp; omega) <;> rfl)
theorem wordOk_AF (s : ByteArray) (hs : s.size ≤ 140737488355328) : Fn 64 [str s] (bool (isWordL s.data.toList)) := by
  have hlen := data_length s
  refine AF.intro Tryz.func64 nm64 rfl rfl rfl rfl fun w0 ok0 => ?_
  refine AWP.seq ?_
  refine AWP.region ?_
  refine Y (ass rfl) rfl ?_
  refine AOps.nil ?_
  refine AWP.seq ?_
  refine AWP.seq ?_
  refine AWP.region ?_
  refine Y (mv rfl) rfl ?_
  refine Y (Yields.len_str Tryz.underlying9 rfl) rfl ?_
  refine Y (mv rfl) rfl ?_
  refine AOps.nil ?_
  refine AWP.block ?_
  refine AWP.loopV (α := Nat) (fun i : Nat => ⟨[(0, str s), (5, int s.size), (6, int i)], []⟩) (fun i : Nat => i ≤ s.size ∧ ∀ j c, j < i → s.data.toList[j]? = some c → wordB c = true) (fun i : Nat => s.size - i) (0) ?_ ?_ ?_
  · exact Leads.rows 0 ⟨rfl, rfl, rfl, trivial⟩
  ·
   show 0 ≤ s.size ∧ ∀ j c, j < 0 → s.data.toList[j]? = some c → wordB c = true
   exact ⟨Nat.zero_le _, fun j c h => by omega⟩
  ·
   rintro i hinv
   refine AWP.seq ?_
   refine AWP.region ?_
   obtain ⟨hi, hp⟩ := hinv
   refine Y (bn rfl rfl BinR.lss rfl) rfl ?_
   refine AOps.nil ?_
   refine AWP.seq ?_
   refine AWP.condT rfl (fun g => ?_) (fun g => ?_)
   ·
    replace g := of_decide_eq_true g
    have hlt : i < s.data.toList.length := by omega
    obtain ⟨c, hc, _⟩ := drop_at hlt
    refine AWP.skip ?_
    refine AWP.seq ?_
    refine AWP.block ?_
    refine AWP.seq ?_
    refine AWP.region ?_
    refine Y (mv rfl) rfl ?_
    refine Y (ass rfl) rfl ?_
    refine AOps.nil ?_
    refine AWP.seq ?_
    refine AWP.region ?_
    refine Y (mv rfl) rfl ?_
    refine Y (mv rfl) rfl ?_
    refine Y (Yields.idx_strN Tryz.underlying9 rfl rfl rfl hc) rfl ?_
    refine Y (bn rfl rfl BinR.lss rfl) rfl ?_
    refine Y (mv rfl) rfl ?_
    refine AOps.split 13 rfl (fun h1 => ?_) (fun h1 => ?_)
    ·
     replace h1 := of_decide_eq_true h1
     refine AOps.off' rfl rfl rfl rfl ?_
     refine AOps.off' rfl rfl rfl rfl ?_
     refine AOps.off' rfl rfl rfl rfl ?_
     refine AOps.off' rfl rfl rfl rfl ?_
     refine Y (Yields.pick_true rfl rfl) rfl ?_
     refine Y (mv rfl) rfl ?_
     refine AOps.off' rfl rfl rfl rfl ?_
     refine AOps.off' rfl rfl rfl rfl ?_
     refine AOps.off' rfl rfl rfl rfl ?_
     refine AOps.off' rfl rfl rfl rfl ?_
     refine Y (Yields.pick_true rfl rfl) rfl ?_
     refine AOps.nil ?_
     refine AWP.cond rfl (fun _ => ?_) (fun h => absurd h (by decide))
     refine AWP.seq ?_
     refine AWP.region ?_
     refine Y (ass rfl) rfl ?_
     refine AOps.nil ?_
     refine AWP.ret ⟨.inl rfl, ?_⟩
     exact RetIs.oneV rfl rfl (by (rw [isWord_bad hc (by simp [wordB]; omega)]) <;> rfl)
    ·
     replace h1 := of_decide_eq_false h1
     refine AOps.on rfl rfl ?_
     refine Y (mv rfl) rfl ?_
     refine AOps.on rfl rfl ?_
     refine Y (mv rfl) rfl ?_
     refine AOps.on rfl rfl ?_
     refine Y (Yields.idx_strN Tryz.underlying9 rfl rfl rfl hc) rfl ?_
     refine AOps.on rfl rfl ?_
     refine Y (bn rfl rfl BinR.gtr rfl) rfl ?_
     refine Y (Yields.pick_false rfl rfl) rfl ?_
     refine Y (mv rfl) rfl ?_
     refine AOps.split 19 rfl (fun h2 => ?_) (fun h2 => ?_)
     ·
      replace h2 := of_decide_eq_true h2
      refine AOps.off' rfl rfl rfl rfl ?_
      refine AOps.off' rfl rfl rfl rfl ?_
      refine AOps.off' rfl rfl rfl rfl ?_
      refine AOps.off' rfl rfl rfl rfl ?_
      refine Y (Yields.pick_true rfl rfl) rfl ?_
      refine AOps.nil ?_
      refine AWP.cond rfl (fun _ => ?_) (fun h => absurd h (by decide))
      refine AWP.seq ?_
      refine AWP.region ?_
      refine Y (ass rfl) rfl ?_
      refine AOps.nil ?_
      refine AWP.ret ⟨.inl rfl, ?_⟩
      exact RetIs.oneV rfl rfl (by (rw [isWord_bad hc (by simp [wordB]; omega)]) <;> rfl)
     ·
      replace h2 := of_decide_eq_false h2
      refine AOps.on rfl rfl ?_
      refine Y (mv rfl) rfl ?_
      refine AOps.on rfl rfl ?_
      refine Y (mv rfl) rfl ?_
      refine AOps.on rfl rfl ?_
      refine Y (Yields.idx_strN Tryz.underlying9 rfl rfl rfl hc) rfl ?_
      refine AOps.on rfl rfl ?_
      refine Y (bn rfl rfl BinR.eql rfl) rfl ?_
      refine Y (Yields.pick_false rfl rfl) rfl ?_
      refine AOps.nil ?_
      refine AWP.condT rfl (fun h3 => ?_) (fun h3 => ?_)
      ·
       replace h3 := eq_of_beq h3
       refine AWP.seq ?_
       refine AWP.region ?_
       refine Y (ass rfl) rfl ?_
       refine AOps.nil ?_
       refine AWP.ret ⟨.inl rfl, ?_⟩
       exact RetIs.oneV rfl rfl (by (rw [isWord_bad hc (by simp [wordB]; omega)]) <;> rfl)
      ·
       replace h3 := ne_of_beq_false h3
       refine AWP.skip ?_
       refine AWP.region ?_
       refine Y (bn rfl rfl (BinR.addI (by omega) (by omega)) rfl) rfl ?_
       refine Y (mv rfl) rfl ?_
       refine AOps.nil ?_
       refine ⟨i + 1, ?_, ?_, ?_⟩
       ·
        show s.size - (i + 1) < s.size - i
        omega
       ·
        show (i + 1) ≤ s.size ∧ ∀ j c, j < (i + 1) → s.data.toList[j]? = some c → wordB c = true
        refine ⟨by omega, fun j d hj hd => ?_⟩
        by_cases e : j = i
        · subst e; rw [hc] at hd; cases hd; simp [wordB]; omega
        · exact hp j d (by omega) hd
       · exact Leads.rows 0 ⟨rfl, rfl, rfl, trivial⟩
   ·
    replace g := of_decide_eq_false g
    have hall : ∀ j c, s.data.toList[j]? = some c → wordB c = true := fun j c hc => hp j c (by have := (List.getElem?_eq_some_iff.1 hc).1; omega) hc
    refine AWP.exit ?_
    refine AWP.seq ?_
    refine AWP.region ?_
    refine Y (mv rfl) rfl ?_
    refine Y (Yields.len_str Tryz.underlying9 rfl) rfl ?_
    refine Y (bn rfl rfl BinR.leq rfl) rfl ?_
    refine Y (ass rfl) rfl ?_
    refine AOps.nil ?_
    refine AWP.ret ⟨.inl rfl, ?_⟩
    exact RetIs.oneV rfl rfl (by (rw [isWord_end hall, hlen]; simp; omega) <;> rfl)

def inR (n a b : Int) : Bool := decide (a ≤ n) && decide (n ≤ b)
mutual
def validV : Tr → Int → Bool
  | .mk k n t ks, d =>
    if k = 0 then inR n 0 9999 && (decide (t = ⟨#[]⟩) && decide (ks.length = 0))
    else if k = 1 then inR n 0 1 && (decide (t = ⟨#[]⟩) && decide (ks.length = 0))
    else if k = 2 then isWordL t.data.toList && (decide (n = 0) && decide (ks.length = 0))
    else if k = 3 then decide (n = 0) && (decide (t = ⟨#[]⟩) && (decide (ks.length ≤ 4) && (decide (1 < d) && validVs ks (d - 1))))
    else if k = 4 then decide (n = 0) && (isNameL t.data.toList && (inR ks.length 1 4 && (decide (1 < d) && validVs ks (d - 1))))
    else false
def validVs : List Tr → Int → Bool
  | [], _ => true
  | k :: ks, d => validV k d && validVs ks d
end

def leafV (b : Bool) (t : ByteArray) (ks : List Tr) : Bool := b && (decide (t = ⟨#[]⟩) && decide (ks.length = 0))
mutual
def depthV : Tr → Int → Int × Bool
  | .mk k n t ks, a =>
    if 6 < a then (0, false)
    else if k = 0 then (1, inR n 0 9999 && (decide (t = ⟨#[]⟩) && decide (ks.length = 0)))
    else if k = 1 then (1, (decide (n = 0) || decide (n = 1)) && (decide (t = ⟨#[]⟩) && decide (ks.length = 0)))
    else if k = 2 then (1, decide (n = 0) && (isWordL t.data.toList && decide (ks.length = 0)))
    else if k = 3 ∧ ¬ t = ⟨#[]⟩ then (0, false)
    else if k = 4 ∧ (isNameL t.data.toList = false ∨ ks.length = 0) then (0, false)
    else if k ≠ 3 ∧ k ≠ 4 then (0, false)
    else if n ≠ 0 ∨ 4 < ks.length then (0, false)
    else if (depthL ks (a + 1) 1).2 = false then (0, false) else ((depthL ks (a + 1) 1).1 + 1, true)
def depthL : List Tr → Int → Int → Int × Bool
  | [], _, m => (m, true)
  | k :: ks, a, m => if (depthV k a).2 = false then (0, false) else depthL ks a (max m (depthV k a).1)
end

mutual
theorem depthV_le : ∀ (k : Tr) (a : Int), 1 ≤ a → 0 ≤ (depthV k a).1 ∧ (depthV k a).1 ≤ max (8 - a) 0
  | .mk k n t ks, a, ha => by
    have hL := depthL_le ks (a + 1) 1 (by omega) (by omega)
    unfold depthV
    by_cases g : 6 < a
    · rw [if_pos g]; simp only; omega
    rw [if_neg g]
    by_cases h0 : k = 0
    · rw [if_pos h0]; simp only; omega
    rw [if_neg h0]
    by_cases h1 : k = 1
    · rw [if_pos h1]; simp only; omega
    rw [if_neg h1]
    by_cases h2 : k = 2
    · rw [if_pos h2]; simp only; omega
    rw [if_neg h2]
    by_cases h3 : k = 3 ∧ ¬ t = ⟨#[]⟩
    · rw [if_pos h3]; simp only; omega
    rw [if_neg h3]
    by_cases h4 : k = 4 ∧ (isNameL t.data.toList = false ∨ ks.length = 0)
    · rw [if_pos h4]; simp only; omega
    rw [if_neg h4]
    by_cases h5 : k ≠ 3 ∧ k ≠ 4
    · rw [if_pos h5]; simp only; omega
    rw [if_neg h5]
    by_cases h6 : n ≠ 0 ∨ 4 < ks.length
    · rw [if_pos h6]; simp only; omega
    rw [if_neg h6]
    by_cases h7 : (depthL ks (a + 1) 1).2 = false
    · rw [if_pos h7]; simp only; omega
    rw [if_neg h7]; simp only; omega
theorem depthL_le : ∀ (ks : List Tr) (a m : Int), 1 ≤ a → 0 ≤ m → 0 ≤ (depthL ks a m).1 ∧ (depthL ks a m).1 ≤ max m (8 - a)
  | [], a, m, ha, hm => by simp [depthL]; omega
  | k :: ks, a, m, ha, hm => by
    have h1 := depthV_le k a ha
    have h2 := depthL_le ks a (max m (depthV k a).1) ha (by omega)
    unfold depthL
    split
    · simp; omega
    · omega
end
theorem depthL_valid (a : Int) (ks : List Tr) (ih : ∀ k ∈ ks, ((depthV k a).2 && decide ((depthV k a).1 ≤ 7 - a)) = validV k (7 - a)) : ∀ m : Int, ((depthL ks a m).2 && decide ((depthL ks a m).1 ≤ 7 - a)) = (decide (m ≤ 7 - a) && validVs ks (7 - a)) := by
  induction ks with
  | nil => intro m; rw [depthL, validVs, Bool.true_and, Bool.and_true]
  | cons k ks ihl =>
    intro m
    have hk := ih k (List.mem_cons_self ..)
    have hks := ihl (fun k h => ih k (List.mem_cons_of_mem _ h))
    rw [depthL, validVs, ← hk]
    by_cases h : (depthV k a).2 = false
    · rw [if_pos h, h]; simp
    · rw [if_neg h, hks]
      have h' : (depthV k a).2 = true := by simpa using h
      rw [h']
      rw [Bool.eq_iff_iff]
      simp only [Bool.and_eq_true, decide_eq_true_eq, Bool.true_and]
      constructor
      · rintro ⟨h1, h2⟩; exact ⟨by omega, by omega, h2⟩
      · rintro ⟨h1, h2, h3⟩; exact ⟨by omega, h3⟩
theorem depthL_seven : ∀ (ks : List Tr) (m : Int), ks ≠ [] → (depthL ks 7 m).2 = false
  | [], m, h => absurd rfl h
  | .mk k n t ks' :: ks, m, _ => by
    have e : depthV (.mk k n t ks') 7 = (0, false) := by rw [depthV, if_pos (by omega)]
    rw [depthL, e, if_pos rfl]
theorem depth_valid (k : Tr) : ∀ a : Int, 1 ≤ a ∧ a ≤ 6 → ((depthV k a).2 && decide ((depthV k a).1 ≤ 7 - a)) = validV k (7 - a) := by
  induction k using Tr.ind
  rename_i kd nm t ks ih
  intro a ha
  unfold depthV validV
  rw [if_neg (by omega : ¬ 6 < a)]
  by_cases h0 : kd = 0
  · rw [if_pos h0, if_pos h0]; have : (1 : Int) ≤ 7 - a := by omega
    simp [this]
  rw [if_neg h0, if_neg h0]
  by_cases h1 : kd = 1
  · rw [if_pos h1, if_pos h1]; have : (1 : Int) ≤ 7 - a := by omega
    have e : (decide (nm = 0) || decide (nm = 1)) = inR nm 0 1 := by
      rw [Bool.eq_iff_iff]; simp [inR]; omega
    simp only [e]
    simp [this]
  rw [if_neg h1, if_neg h1]
  by_cases h2 : kd = 2
  · rw [if_pos h2, if_pos h2]; have : (1 : Int) ≤ 7 - a := by omega
    rw [Bool.eq_iff_iff]
    simp [this]
    constructor
    · rintro ⟨q1, q2, q3⟩; exact ⟨q2, q1, q3⟩
    · rintro ⟨q1, q2, q3⟩; exact ⟨q2, q1, q3⟩
  rw [if_neg h2, if_neg h2]
  have key : ((if (depthL ks (a + 1) 1).2 = false then ((0 : Int), false) else ((depthL ks (a + 1) 1).1 + 1, true)).2 && decide ((if (depthL ks (a + 1) 1).2 = false then ((0 : Int), false) else ((depthL ks (a + 1) 1).1 + 1, true)).1 ≤ 7 - a)) = (decide (1 < 7 - a) && validVs ks (7 - a - 1)) := by
    by_cases h6 : a = 6
    · subst h6
      cases ks with
      | nil => simp [depthL]
      | cons k ks =>
        have := depthL_seven (k :: ks) 1 (by simp)
        rw [show (6 : Int) + 1 = 7 by omega, if_pos this]; simp
    · have := depthL_valid (a + 1) ks (fun k hk => ih k hk (a + 1) (by omega)) 1
      rw [show (7 : Int) - a - 1 = 7 - (a + 1) by omega]
      have e : decide (1 < 7 - a) = decide ((1 : Int) ≤ 7 - (a + 1)) := by
        rw [Bool.eq_iff_iff]; simp only [decide_eq_true_eq]; omega
      rw [e, ← this]
      by_cases h : (depthL ks (a + 1) 1).2 = false
      · rw [if_pos h, h]; simp
      · rw [if_neg h]
        have h' : (depthL ks (a + 1) 1).2 = true := by simpa using h
        rw [h', Bool.eq_iff_iff]; simp only [Bool.true_and, decide_eq_true_eq]; omega
  by_cases h3 : kd = 3
  · rw [if_pos h3]
    by_cases ht : t = ⟨#[]⟩
    · rw [if_neg (fun q => q.2 ht), if_neg (by omega), if_neg (by omega)]
      by_cases hn : nm = 0
      · by_cases hl : ks.length ≤ 4
        · rw [if_neg (by omega), key]; simp [hn, ht, hl]
        · rw [if_pos (by omega)]; simp [hl]
      · rw [if_pos (.inl hn)]; simp [hn]
    · rw [if_pos ⟨h3, ht⟩]; simp [ht]
  rw [if_neg h3, if_neg (fun q => h3 q.1)]
  by_cases h4 : kd = 4
  · rw [if_pos h4]
    by_cases hnm : isNameL t.data.toList = true
    · by_cases hl0 : ks.length = 0
      · rw [if_pos ⟨h4, .inr hl0⟩]; simp [inR, hl0]
      · rw [if_neg (by rintro ⟨_, q | q⟩; rw [hnm] at q; cases q; exact hl0 q), if_neg (by omega)]
        by_cases hn : nm = 0
        · by_cases hl : ks.length ≤ 4
          · rw [if_neg (by omega), key]
            have : inR ks.length 1 4 = true := by simp [inR]; omega
            simp [hn, hnm, this]
          · rw [if_pos (by omega)]
            have : inR ks.length 1 4 = false := by simp [inR]; omega
            simp [this]
        · rw [if_pos (.inl hn)]; simp [hn]
    · rw [if_pos ⟨h4, .inl (by simpa using hnm)⟩]; simp [hnm]
  · rw [if_neg h4, if_neg (fun q => h4 q.1), if_pos ⟨h3, h4⟩]; simp
theorem depth_ok (k : Tr) : ((depthV k 1).2 && decide ((depthV k 1).1 ≤ 6)) = validV k 6 := depth_valid k 1 (by omega)

end Go.Proofs.YtccdgppplkfjfaaGreat
