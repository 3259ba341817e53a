/- Values that are ones: ValueOk of both programs. -/
import Derived.Test.YtccdgppplkfjfaaDoorRd
import Derived.Test.YtccdgppplkfjfaaDoorTy
namespace Go.Proofs.YtccdgppplkfjfaaDoor
open Go Go.Ax Go.Proofs
set_option linter.unusedVariables false
set_option linter.unusedSimpArgs false
set_option maxRecDepth 20000

def wordB (c : UInt8) : Bool := decide ((32 : Int) ≤ c.toNat) && decide ((c.toNat : Int) ≤ 126) && !decide ((c.toNat : Int) = 39)
def isWordL (l : List UInt8) : Bool := l.all wordB && decide (l.length ≤ 20)
theorem isWord_bad {l : List UInt8} {i : Nat} {c : UInt8} (hc : l[i]? = some c) (h : wordB c = false) : isWordL l = false := by
  have : l.all wordB = false := by rw [List.all_eq_false]; exact ⟨c, List.mem_of_getElem? hc, by simp [h]⟩
  simp [isWordL, this]
theorem isWord_end {l : List UInt8} (h : ∀ (i : Nat) (c : UInt8), l[i]? = some c → wordB c = true) : isWordL l = decide (l.length ≤ 20) := by
  have : l.all wordB = true := by
    rw [List.all_eq_true]
    intro c hc
    obtain ⟨i, hi⟩ := List.getElem?_of_mem hc
    exact h i c hi
  simp [isWordL, this]

theorem isWord_AF (s : ByteArray) (hs : s.size ≤ 140737488355328) : Fn 71 [str s] (bool (isWordL s.data.toList)) := by
  have hlen := data_length s
  refine AF.intro Tryd.func71 nm71 rfl rfl rfl rfl fun w0 ok0 => ?_
  refine AWP.seq ?_
  refine AWP.region ?_
  refine Y (ass rfl) rfl ?_
  refine AOps.nil ?_
  refine AWP.seq ?_
  refine AWP.seq ?_
  refine AWP.region ?_
  refine Y (ass rfl) rfl ?_
  refine AOps.nil ?_
  refine AWP.block ?_
  refine AWP.loopV (α := Nat) (fun i : Nat => ⟨[(0, str s), (3, int i)], []⟩) (fun i : Nat => i ≤ s.size ∧ ∀ j c, j < i → s.data.toList[j]? = some c → wordB c = true) (fun i : Nat => s.size - i) (0) ?_ ?_ ?_
  · exact Leads.rows 0 ⟨rfl, rfl, trivial⟩
  ·
   show 0 ≤ s.size ∧ ∀ j c, j < 0 → s.data.toList[j]? = some c → wordB c = true
   exact ⟨Nat.zero_le _, fun j c h => by omega⟩
  ·
   rintro i hinv
   refine AWP.seq ?_
   refine AWP.seq ?_
   refine AWP.region ?_
   obtain ⟨hi, hp⟩ := hinv
   refine Y (mv rfl) rfl ?_
   refine Y (mv rfl) rfl ?_
   refine Y (Yields.len_str Tryd.underlying9 rfl) rfl ?_
   refine Y (bn rfl rfl BinR.lss rfl) rfl ?_
   refine AOps.nil ?_
   refine AWP.condT rfl (fun g => ?_) (fun g => ?_)
   ·
    replace g := of_decide_eq_true g
    have hlt : i < s.data.toList.length := by omega
    obtain ⟨c, hc, _⟩ := drop_at hlt
    refine AWP.skip ?_
    refine AWP.seq ?_
    refine AWP.block ?_
    refine AWP.seq ?_
    refine AWP.region ?_
    refine Y (mv rfl) rfl ?_
    refine Y (mv rfl) rfl ?_
    refine Y (Yields.idx_strN Tryd.underlying9 rfl rfl rfl hc) rfl ?_
    refine Y (bn rfl rfl BinR.lss rfl) rfl ?_
    refine Y (mv rfl) rfl ?_
    refine AOps.split 14 rfl (fun h1 => ?_) (fun h1 => ?_)
    ·
     replace h1 := of_decide_eq_true h1
     refine AOps.off' rfl rfl rfl rfl ?_
     refine AOps.off' rfl rfl rfl rfl ?_
     refine AOps.off' rfl rfl rfl rfl ?_
     refine AOps.off' rfl rfl rfl rfl ?_
     refine Y (Yields.pick_true rfl rfl) rfl ?_
     refine Y (mv rfl) rfl ?_
     refine AOps.off' rfl rfl rfl rfl ?_
     refine AOps.off' rfl rfl rfl rfl ?_
     refine AOps.off' rfl rfl rfl rfl ?_
     refine AOps.off' rfl rfl rfl rfl ?_
     refine Y (Yields.pick_true rfl rfl) rfl ?_
     refine AOps.nil ?_
     refine AWP.cond rfl (fun _ => ?_) (fun h => absurd h (by decide))
     refine AWP.seq ?_
     refine AWP.region ?_
     refine Y (ass rfl) rfl ?_
     refine AOps.nil ?_
     refine AWP.ret ⟨.inl rfl, ?_⟩
     exact RetIs.oneV rfl rfl (by (rw [isWord_bad hc (by simp [wordB]; omega)]) <;> rfl)
    ·
     replace h1 := of_decide_eq_false h1
     refine AOps.on rfl rfl ?_
     refine Y (mv rfl) rfl ?_
     refine AOps.on rfl rfl ?_
     refine Y (mv rfl) rfl ?_
     refine AOps.on rfl rfl ?_
     refine Y (Yields.idx_strN Tryd.underlying9 rfl rfl rfl hc) rfl ?_
     refine AOps.on rfl rfl ?_
     refine Y (bn rfl rfl BinR.gtr rfl) rfl ?_
     refine Y (Yields.pick_false rfl rfl) rfl ?_
     refine Y (mv rfl) rfl ?_
     refine AOps.split 20 rfl (fun h2 => ?_) (fun h2 => ?_)
     ·
      replace h2 := of_decide_eq_true h2
      refine AOps.off' rfl rfl rfl rfl ?_
      refine AOps.off' rfl rfl rfl rfl ?_
      refine AOps.off' rfl rfl rfl rfl ?_
      refine AOps.off' rfl rfl rfl rfl ?_
      refine Y (Yields.pick_true rfl rfl) rfl ?_
      refine AOps.nil ?_
      refine AWP.cond rfl (fun _ => ?_) (fun h => absurd h (by decide))
      refine AWP.seq ?_
      refine AWP.region ?_
      refine Y (ass rfl) rfl ?_
      refine AOps.nil ?_
      refine AWP.ret ⟨.inl rfl, ?_⟩
      exact RetIs.oneV rfl rfl (by (rw [isWord_bad hc (by simp [wordB]; omega)]) <;> rfl)
     ·
      replace h2 := of_decide_eq_false h2
      refine AOps.on rfl rfl ?_
      refine Y (mv rfl) rfl ?_
      refine AOps.on rfl rfl ?_
      refine Y (mv rfl) rfl ?_
      refine AOps.on rfl rfl ?_
      refine Y (Yields.idx_strN Tryd.underlying9 rfl rfl rfl hc) rfl ?_
      refine AOps.on rfl rfl ?_
      refine Y (bn rfl rfl BinR.eql rfl) rfl ?_
      refine Y (Yields.pick_false rfl rfl) rfl ?_
      refine AOps.nil ?_
      refine AWP.condT rfl (fun h3 => ?_) (fun h3 => ?_)
      ·
       replace h3 := eq_of_beq h3
       refine AWP.seq ?_
       refine AWP.region ?_
       refine Y (ass rfl) rfl ?_
       refine AOps.nil ?_
       refine AWP.ret ⟨.inl rfl, ?_⟩
       exact RetIs.oneV rfl rfl (by (rw [isWord_bad hc (by simp [wordB]; omega)]) <;> rfl)
      ·
       replace h3 := ne_of_beq_false h3
       refine AWP.skip ?_
       refine AWP.region ?_
       refine Y (mv rfl) rfl ?_
       refine Y (bn rfl rfl (BinR.addI (by omega) (by omega)) rfl) rfl ?_
       refine Y (ass rfl) rfl ?_
       refine AOps.nil ?_
       refine ⟨i + 1, ?_, ?_, ?_⟩
       ·
        show s.size - (i + 1) < s.size - i
        omega
       ·
        show (i + 1) ≤ s.size ∧ ∀ j c, j < (i + 1) → s.data.toList[j]? = some c → wordB c = true
        refine ⟨by omega, fun j d hj hd => ?_⟩
        by_cases e : j = i
        · subst e; rw [hc] at hd; cases hd; simp [wordB]; omega
        · exact hp j d (by omega) hd
       · exact Leads.rows 0 ⟨rfl, rfl, trivial⟩
   ·
    replace g := of_decide_eq_false g
    have hall : ∀ j c, s.data.toList[j]? = some c → wordB c = true := fun j c hc => hp j c (by have := (List.getElem?_eq_some_iff.1 hc).1; omega) hc
    refine AWP.exit ?_
    refine AWP.seq ?_
    refine AWP.region ?_
    refine Y (mv rfl) rfl ?_
    refine Y (Yields.len_str Tryd.underlying9 rfl) rfl ?_
    refine Y (bn rfl rfl BinR.leq rfl) rfl ?_
    refine Y (ass rfl) rfl ?_
    refine AOps.nil ?_
    refine AWP.ret ⟨.inl rfl, ?_⟩
    exact RetIs.oneV rfl rfl (by (rw [isWord_end hall, hlen]; simp; omega) <;> rfl)
theorem wordOk_AF (s : ByteArray) (hs : s.size ≤ 140737488355328) : Fn 73 [str s] (bool (isWordL s.data.toList)) := by
  have hlen := data_length s
  refine AF.intro Tryd.func73 nm73 rfl rfl rfl rfl fun w0 ok0 => ?_
  refine AWP.seq ?_
  refine AWP.region ?_
  refine Y (ass rfl) rfl ?_
  refine AOps.nil ?_
  refine AWP.seq ?_
  refine AWP.seq ?_
  refine AWP.region ?_
  refine Y (mv rfl) rfl ?_
  refine Y (Yields.len_str Tryd.underlying9 rfl) rfl ?_
  refine Y (mv rfl) rfl ?_
  refine AOps.nil ?_
  refine AWP.block ?_
  refine AWP.loopV (α := Nat) (fun i : Nat => ⟨[(0, str s), (5, int s.size), (6, int i)], []⟩) (fun i : Nat => i ≤ s.size ∧ ∀ j c, j < i → s.data.toList[j]? = some c → wordB c = true) (fun i : Nat => s.size - i) (0) ?_ ?_ ?_
  · exact Leads.rows 0 ⟨rfl, rfl, rfl, trivial⟩
  ·
   show 0 ≤ s.size ∧ ∀ j c, j < 0 → s.data.toList[j]? = some c → wordB c = true
   exact ⟨Nat.zero_le _, fun j c h => by omega⟩
  ·
   rintro i hinv
   refine AWP.seq ?_
   refine AWP.region ?_
   obtain ⟨hi, hp⟩ := hinv
   refine Y (bn rfl rfl BinR.lss rfl) rfl ?_
   refine AOps.nil ?_
   refine AWP.seq ?_
   refine AWP.condT rfl (fun g => ?_) (fun g => ?_)
   ·
    replace g := of_decide_eq_true g
    have hlt : i < s.data.toList.length := by omega
    obtain ⟨c, hc, _⟩ := drop_at hlt
    refine AWP.skip ?_
    refine AWP.seq ?_
    refine AWP.block ?_
    refine AWP.seq ?_
    refine AWP.region ?_
    refine Y (mv rfl) rfl ?_
    refine Y (ass rfl) rfl ?_
    refine AOps.nil ?_
    refine AWP.seq ?_
    refine AWP.region ?_
    refine Y (mv rfl) rfl ?_
    refine Y (mv rfl) rfl ?_
    refine Y (Yields.idx_strN Tryd.underlying9 rfl rfl rfl hc) rfl ?_
    refine Y (bn rfl rfl BinR.lss rfl) rfl ?_
    refine Y (mv rfl) rfl ?_
    refine AOps.split 13 rfl (fun h1 => ?_) (fun h1 => ?_)
    ·
     replace h1 := of_decide_eq_true h1
     refine AOps.off' rfl rfl rfl rfl ?_
     refine AOps.off' rfl rfl rfl rfl ?_
     refine AOps.off' rfl rfl rfl rfl ?_
     refine AOps.off' rfl rfl rfl rfl ?_
     refine Y (Yields.pick_true rfl rfl) rfl ?_
     refine Y (mv rfl) rfl ?_
     refine AOps.off' rfl rfl rfl rfl ?_
     refine AOps.off' rfl rfl rfl rfl ?_
     refine AOps.off' rfl rfl rfl rfl ?_
     refine AOps.off' rfl rfl rfl rfl ?_
     refine Y (Yields.pick_true rfl rfl) rfl ?_
     refine AOps.nil ?_
     refine AWP.cond rfl (fun _ => ?_) (fun h => absurd h (by decide))
     refine AWP.seq ?_
     refine AWP.region ?_
     refine Y (ass rfl) rfl ?_
     refine AOps.nil ?_
     refine AWP.ret ⟨.inl rfl, ?_⟩
     exact RetIs.oneV rfl rfl (by (rw [isWord_bad hc (by simp [wordB]; omega)]) <;> rfl)
    ·
     replace h1 := of_decide_eq_false h1
     refine AOps.on rfl rfl ?_
     refine Y (mv rfl) rfl ?_
     refine AOps.on rfl rfl ?_
     refine Y (mv rfl) rfl ?_
     refine AOps.on rfl rfl ?_
     refine Y (Yields.idx_strN Tryd.underlying9 rfl rfl rfl hc) rfl ?_
     refine AOps.on rfl rfl ?_
     refine Y (bn rfl rfl BinR.gtr rfl) rfl ?_
     refine Y (Yields.pick_false rfl rfl) rfl ?_
     refine Y (mv rfl) rfl ?_
     refine AOps.split 19 rfl (fun h2 => ?_) (fun h2 => ?_)
     ·
      replace h2 := of_decide_eq_true h2
      refine AOps.off' rfl rfl rfl rfl ?_
      refine AOps.off' rfl rfl rfl rfl ?_
      refine AOps.off' rfl rfl rfl rfl ?_
      refine AOps.off' rfl rfl rfl rfl ?_
      refine Y (Yields.pick_true rfl rfl) rfl ?_
      refine AOps.nil ?_
      refine AWP.cond rfl (fun _ => ?_) (fun h => absurd h (by decide))
      refine AWP.seq ?_
      refine AWP.region ?_
      refine Y (ass rfl) rfl ?_
      refine AOps.nil ?_
      refine AWP.ret ⟨.inl rfl, ?_⟩
      exact RetIs.oneV rfl rfl (by (rw [isWord_bad hc (by simp [wordB]; omega)]) <;> rfl)
     ·
      replace h2 := of_decide_eq_false h2
      refine AOps.on rfl rfl ?_
      refine Y (mv rfl) rfl ?_
      refine AOps.on rfl rfl ?_
      refine Y (mv rfl) rfl ?_
      refine AOps.on rfl rfl ?_
      refine Y (Yields.idx_strN Tryd.underlying9 rfl rfl rfl hc) rfl ?_
      refine AOps.on rfl rfl ?_
      refine Y (bn rfl rfl BinR.eql rfl) rfl ?_
      refine Y (Yields.pick_false rfl rfl) rfl ?_
      refine AOps.nil ?_
      refine AWP.condT rfl (fun h3 => ?_) (fun h3 => ?_)
      ·
       replace h3 := eq_of_beq h3
       refine AWP.seq ?_
       refine AWP.region ?_
       refine Y (ass rfl) rfl ?_
       refine AOps.nil ?_
       refine AWP.ret ⟨.inl rfl, ?_⟩
       exact RetIs.oneV rfl rfl (by (rw [isWord_bad hc (by simp [wordB]; omega)]) <;> rfl)
      ·
       replace h3 := ne_of_beq_false h3
       refine AWP.skip ?_
       refine AWP.region ?_
       refine Y (bn rfl rfl (BinR.addI (by omega) (by omega)) rfl) rfl ?_
       refine Y (mv rfl) rfl ?_
       refine AOps.nil ?_
       refine ⟨i + 1, ?_, ?_, ?_⟩
       ·
        show s.size - (i + 1) < s.size - i
        omega
       ·
        show (i + 1) ≤ s.size ∧ ∀ j c, j < (i + 1) → s.data.toList[j]? = some c → wordB c = true
        refine ⟨by omega, fun j d hj hd => ?_⟩
        by_cases e : j = i
        · subst e; rw [hc] at hd; cases hd; simp [wordB]; omega
        · exact hp j d (by omega) hd
       · exact Leads.rows 0 ⟨rfl, rfl, rfl, trivial⟩
   ·
    replace g := of_decide_eq_false g
    have hall : ∀ j c, s.data.toList[j]? = some c → wordB c = true := fun j c hc => hp j c (by have := (List.getElem?_eq_some_iff.1 hc).1; omega) hc
    refine AWP.exit ?_
    refine AWP.seq ?_
    refine AWP.region ?_
    refine Y (mv rfl) rfl ?_
    refine Y (Yields.len_str Tryd.underlying9 rfl) rfl ?_
    refine Y (bn rfl rfl BinR.leq rfl) rfl ?_
    refine Y (ass rfl) rfl ?_
    refine AOps.nil ?_
    refine AWP.ret ⟨.inl rfl, ?_⟩
    exact RetIs.oneV rfl rfl (by (rw [isWord_end hall, hlen]; simp; omega) <;> rfl)

def inR (n a b : Int) : Bool := decide (a ≤ n) && decide (n ≤ b)
mutual
def validV : Tr → Int → Bool
  | .mk k n t ks, d =>
    if k = 0 then inR n 0 9999 && (decide (t = ⟨#[]⟩) && decide (ks.length = 0))
    else if k = 1 then inR n 0 1 && (decide (t = ⟨#[]⟩) && decide (ks.length = 0))
    else if k = 2 then isWordL t.data.toList && (decide (n = 0) && decide (ks.length = 0))
    else if k = 3 then decide (n = 0) && (decide (t = ⟨#[]⟩) && (decide (ks.length ≤ 4) && (decide (1 < d) && validVs ks (d - 1))))
    else if k = 4 then decide (n = 0) && (isNameL t.data.toList && (inR ks.length 1 4 && (decide (1 < d) && validVs ks (d - 1))))
    else false
def validVs : List Tr → Int → Bool
  | [], _ => true
  | k :: ks, d => validV k d && validVs ks d
end

theorem validVs_of (ks : List Tr) (d : Int) (hd : 0 ≤ d ∧ d ≤ 6) (hv : ∀ k ∈ ks, ∀ d : Int, 0 ≤ d ∧ d ≤ 6 → Fn 52 [k.av, int d] (bool (validV k d))) (hl : ks.length ≤ 1000000) :
    Fn 72 [.ro 4 (Tr.avs ks) [] false, int d] (bool (validVs ks d)) := by
  have hlen := Tr.avs_length ks
  refine AF.intro Tryd.func72 nm72 rfl rfl rfl rfl fun w0 ok0 => ?_
  refine AWP.seq ?_
  refine AWP.region ?_
  refine Y (ass rfl) rfl ?_
  refine AOps.nil ?_
  refine AWP.seq ?_
  refine AWP.seq ?_
  refine AWP.region ?_
  refine Y (ass rfl) rfl ?_
  refine AOps.nil ?_
  refine AWP.block ?_
  refine AWP.loopV (α := Nat) (fun i : Nat => ⟨[(0, .ro 4 (Tr.avs ks) [] false), (1, int d), (5, int i)], []⟩) (fun i : Nat => i ≤ ks.length ∧ validVs (ks.drop i) d = validVs ks d) (fun i : Nat => ks.length - i) (0) ?_ ?_ ?_
  · exact Leads.rows 0 ⟨rfl, rfl, rfl, trivial⟩
  ·
   show 0 ≤ ks.length ∧ validVs (ks.drop 0) d = validVs ks d
   exact ⟨Nat.zero_le _, rfl⟩
  ·
   rintro i hinv
   refine AWP.seq ?_
   refine AWP.seq ?_
   refine AWP.region ?_
   obtain ⟨hi, hp⟩ := hinv
   refine Y (mv rfl) rfl ?_
   refine Y (mv rfl) rfl ?_
   refine Y (Yields.len_ro sl38 rfl) rfl ?_
   refine Y (bn rfl rfl BinR.lss rfl) rfl ?_
   refine AOps.nil ?_
   refine AWP.condT rfl (fun g => ?_) (fun g => ?_)
   ·
    replace g := of_decide_eq_true g
    obtain ⟨k, hk, hd'⟩ := drop_at (l := ks) (i := i) (by omega)
    rw [hd', validVs] at hp
    refine AWP.skip ?_
    refine AWP.seq ?_
    refine AWP.block ?_
    refine AWP.seq ?_
    refine AWP.region ?_
    refine Y (mv rfl) rfl ?_
    refine Y (mv rfl) rfl ?_
    refine Y (Yields.idx_roN sl38 rfl rfl rfl rfl (by omega)) rfl ?_
    refine Y (Yields.load_rop_aggV kd40 rfl (Tr.avs_at hk) (Tr.av_agg k)) rfl ?_
    refine Y (mv rfl) rfl ?_
    refine AOps.callro (hv k (List.mem_of_getElem? hk) d hd) rfl rfl rfl ?_
    refine Y (Yields.not rfl) rfl ?_
    refine AOps.nil ?_
    refine AWP.condT rfl (fun g2 => ?_) (fun g2 => ?_)
    ·
     skip
     refine AWP.seq ?_
     refine AWP.region ?_
     have g2 : validV k d = false := by simpa using g2
     refine Y (ass rfl) rfl ?_
     refine AOps.nil ?_
     refine AWP.ret ⟨.inl rfl, ?_⟩
     exact RetIs.oneV rfl rfl (by (rw [← hp, g2, Bool.false_and]) <;> rfl)
    ·
     skip
     have g2 : validV k d = true := by simpa using g2
     refine AWP.skip ?_
     refine AWP.region ?_
     refine Y (mv rfl) rfl ?_
     refine Y (bn rfl rfl (BinR.addI (by omega) (by omega)) rfl) rfl ?_
     refine Y (ass rfl) rfl ?_
     refine AOps.nil ?_
     refine ⟨i + 1, ?_, ?_, ?_⟩
     ·
      show ks.length - (i + 1) < ks.length - i
      omega
     ·
      show (i + 1) ≤ ks.length ∧ validVs (ks.drop (i + 1)) d = validVs ks d
      exact ⟨by omega, by rw [← hp, g2, Bool.true_and]⟩
     · exact Leads.rows 0 ⟨rfl, rfl, rfl, trivial⟩
   ·
    replace g := of_decide_eq_false g
    rw [List.drop_eq_nil_of_le (by omega), validVs] at hp
    refine AWP.exit ?_
    refine AWP.seq ?_
    refine AWP.region ?_
    refine Y (ass rfl) rfl ?_
    refine AOps.nil ?_
    refine AWP.ret ⟨.inl rfl, ?_⟩
    exact RetIs.oneV rfl rfl (by (rw [← hp]) <;> rfl)

theorem validV_AF (k : Tr) : ∀ d : Int, k.bnd 1000000 → 0 ≤ d ∧ d ≤ 6 → Fn 52 [k.av, int d] (bool (validV k d)) := by
  induction k using Tr.ind
  rename_i kd nm t ks ih
  intro d hk hd
  simp only [Tr.bnd] at hk
  obtain ⟨hk1, hk2, hk3⟩ := hk
  have hlen := Tr.avs_length ks
  have hS := fun h => validVs_of ks (d - 1) h (fun k hk d => ih k hk d (Tr.bnds_mem hk3 k hk)) (by omega)
  refine AF.intro Tryd.func52 nm52 rfl rfl rfl rfl fun w0 ok0 => ?_
  refine AWP.seq ?_
  refine AWP.region ?_
  refine AOps.box rfl rfl rfl rfl fun b1 => ?_
  refine Y (ass rfl) rfl ?_
  refine AOps.nil ?_
  refine AWP.seq ?_
  refine AWP.seq ?_
  refine AWP.region ?_
  refine Y (Yields.fieldAddr_ptr fo40_0 rfl) rfl ?_
  refine Y (Yields.load_ptr_field (j := 0) kd3 rfl rfl rfl rfl rfl rfl rfl) rfl ?_
  refine AOps.nil ?_
  refine AWP.block ?_
  refine AWP.seq ?_
  refine AWP.region ?_
  refine Y (bn rfl rfl BinR.eql rfl) rfl ?_
  refine Y (ass rfl) rfl ?_
  refine AOps.nil ?_
  refine AWP.condT rfl (fun h0 => ?_) (fun h0 => ?_)
  ·
   replace h0 := eq_of_beq h0
   refine AWP.seq ?_
   refine AWP.region ?_
   refine Y (Yields.fieldAddr_ptr fo40_1 rfl) rfl ?_
   refine Y (Yields.load_ptr_field (j := 0) kd3 rfl rfl rfl rfl rfl rfl rfl) rfl ?_
   refine AOps.callro (inRange_AF nm 0 9999) rfl rfl rfl ?_
   refine Y (mv rfl) rfl ?_
   refine AOps.split 12 rfl (fun a1 => ?_) (fun a1 => ?_)
   ·
    skip
    refine AOps.on rfl rfl ?_
    refine Y (Yields.fieldAddr_ptr fo40_2 rfl) rfl ?_
    refine AOps.on rfl rfl ?_
    refine Y (Yields.load_ptr_field (j := 0) kd9 rfl rfl rfl rfl rfl rfl rfl) rfl ?_
    refine AOps.on rfl rfl ?_
    refine Y (bn rfl rfl BinR.seql rfl) rfl ?_
    refine Y (Yields.pick_true rfl rfl) rfl ?_
    refine Y (mv rfl) rfl ?_
    refine AOps.split 17 rfl (fun a2 => ?_) (fun a2 => ?_)
    ·
     replace a2 := of_decide_eq_true a2
     refine AOps.on rfl rfl ?_
     refine Y (Yields.fieldAddr_ptr fo40_3 rfl) rfl ?_
     refine AOps.on rfl rfl ?_
     refine Y (Yields.load_ptr_field (j := 0) kd38 rfl rfl rfl rfl rfl rfl rfl) rfl ?_
     refine AOps.on rfl rfl ?_
     refine Y (Yields.len_ro sl38 rfl) rfl ?_
     refine AOps.on rfl rfl ?_
     refine Y (bn rfl rfl BinR.eql rfl) rfl ?_
     refine Y (Yields.pick_true rfl rfl) rfl ?_
     refine Y (ass rfl) rfl ?_
     refine AOps.nil ?_
     refine AWP.ret ⟨.inl rfl, ?_⟩
     exact RetIs.oneV rfl rfl (congrArg (fun b => AV.val (Value.bool b)) (by rw [Bool.eq_iff_iff]; first | (simp [validV, h0, inR, a1, a2, hlen]; done) | (simp [validV, h0, inR, a1, a2, hlen]; omega) | (simp_all [validV, h0, inR, a1, a2, hlen]; done) | (simp_all [validV, h0, inR, a1, a2, hlen]; omega) | (simp_all [validV, h0, inR, a1, a2, hlen]; intros; omega)))
    ·
     replace a2 := of_decide_eq_false a2
     refine AOps.off' rfl rfl rfl rfl ?_
     refine AOps.off' rfl rfl rfl rfl ?_
     refine AOps.off' rfl rfl rfl rfl ?_
     refine AOps.off' rfl rfl rfl rfl ?_
     refine Y (Yields.pick_false rfl rfl) rfl ?_
     refine Y (ass rfl) rfl ?_
     refine AOps.nil ?_
     refine AWP.ret ⟨.inl rfl, ?_⟩
     exact RetIs.oneV rfl rfl (congrArg (fun b => AV.val (Value.bool b)) (by rw [Bool.eq_iff_iff]; first | (simp [validV, h0, inR, a1, a2, hlen]; done) | (simp [validV, h0, inR, a1, a2, hlen]; omega) | (simp_all [validV, h0, inR, a1, a2, hlen]; done) | (simp_all [validV, h0, inR, a1, a2, hlen]; omega) | (simp_all [validV, h0, inR, a1, a2, hlen]; intros; omega)))
   ·
    skip
    refine AOps.off' rfl rfl rfl rfl ?_
    refine AOps.off' rfl rfl rfl rfl ?_
    refine AOps.off' rfl rfl rfl rfl ?_
    refine Y (Yields.pick_false rfl rfl) rfl ?_
    refine Y (mv rfl) rfl ?_
    refine AOps.off' rfl rfl rfl rfl ?_
    refine AOps.off' rfl rfl rfl rfl ?_
    refine AOps.off' rfl rfl rfl rfl ?_
    refine AOps.off' rfl rfl rfl rfl ?_
    refine Y (Yields.pick_false rfl rfl) rfl ?_
    refine Y (ass rfl) rfl ?_
    refine AOps.nil ?_
    refine AWP.ret ⟨.inl rfl, ?_⟩
    exact RetIs.oneV rfl rfl (congrArg (fun b => AV.val (Value.bool b)) (by rw [Bool.eq_iff_iff]; first | (simp [validV, h0, inR, hlen]; done) | (simp [validV, h0, inR, hlen]; omega) | (simp_all [validV, h0, inR, hlen]; done) | (simp_all [validV, h0, inR, hlen]; omega) | (simp_all [validV, h0, inR, hlen]; intros; omega)))
  ·
   replace h0 := ne_of_beq_false h0
   refine AWP.seq ?_
   refine AWP.region ?_
   refine Y (bn rfl rfl BinR.eql rfl) rfl ?_
   refine Y (ass rfl) rfl ?_
   refine AOps.nil ?_
   refine AWP.condT rfl (fun h1 => ?_) (fun h1 => ?_)
   ·
    replace h1 := eq_of_beq h1
    refine AWP.seq ?_
    refine AWP.region ?_
    refine Y (Yields.fieldAddr_ptr fo40_1 rfl) rfl ?_
    refine Y (Yields.load_ptr_field (j := 0) kd3 rfl rfl rfl rfl rfl rfl rfl) rfl ?_
    refine AOps.callro (inRange_AF nm 0 1) rfl rfl rfl ?_
    refine Y (mv rfl) rfl ?_
    refine AOps.split 28 rfl (fun a1 => ?_) (fun a1 => ?_)
    ·
     skip
     refine AOps.on rfl rfl ?_
     refine Y (Yields.fieldAddr_ptr fo40_2 rfl) rfl ?_
     refine AOps.on rfl rfl ?_
     refine Y (Yields.load_ptr_field (j := 0) kd9 rfl rfl rfl rfl rfl rfl rfl) rfl ?_
     refine AOps.on rfl rfl ?_
     refine Y (bn rfl rfl BinR.seql rfl) rfl ?_
     refine Y (Yields.pick_true rfl rfl) rfl ?_
     refine Y (mv rfl) rfl ?_
     refine AOps.split 33 rfl (fun a2 => ?_) (fun a2 => ?_)
     ·
      replace a2 := of_decide_eq_true a2
      refine AOps.on rfl rfl ?_
      refine Y (Yields.fieldAddr_ptr fo40_3 rfl) rfl ?_
      refine AOps.on rfl rfl ?_
      refine Y (Yields.load_ptr_field (j := 0) kd38 rfl rfl rfl rfl rfl rfl rfl) rfl ?_
      refine AOps.on rfl rfl ?_
      refine Y (Yields.len_ro sl38 rfl) rfl ?_
      refine AOps.on rfl rfl ?_
      refine Y (bn rfl rfl BinR.eql rfl) rfl ?_
      refine Y (Yields.pick_true rfl rfl) rfl ?_
      refine Y (ass rfl) rfl ?_
      refine AOps.nil ?_
      refine AWP.ret ⟨.inl rfl, ?_⟩
      exact RetIs.oneV rfl rfl (congrArg (fun b => AV.val (Value.bool b)) (by rw [Bool.eq_iff_iff]; first | (simp [validV, h1, inR, a1, a2, hlen]; done) | (simp [validV, h1, inR, a1, a2, hlen]; omega) | (simp_all [validV, h1, inR, a1, a2, hlen]; done) | (simp_all [validV, h1, inR, a1, a2, hlen]; omega) | (simp_all [validV, h1, inR, a1, a2, hlen]; intros; omega)))
     ·
      replace a2 := of_decide_eq_false a2
      refine AOps.off' rfl rfl rfl rfl ?_
      refine AOps.off' rfl rfl rfl rfl ?_
      refine AOps.off' rfl rfl rfl rfl ?_
      refine AOps.off' rfl rfl rfl rfl ?_
      refine Y (Yields.pick_false rfl rfl) rfl ?_
      refine Y (ass rfl) rfl ?_
      refine AOps.nil ?_
      refine AWP.ret ⟨.inl rfl, ?_⟩
      exact RetIs.oneV rfl rfl (congrArg (fun b => AV.val (Value.bool b)) (by rw [Bool.eq_iff_iff]; first | (simp [validV, h1, inR, a1, a2, hlen]; done) | (simp [validV, h1, inR, a1, a2, hlen]; omega) | (simp_all [validV, h1, inR, a1, a2, hlen]; done) | (simp_all [validV, h1, inR, a1, a2, hlen]; omega) | (simp_all [validV, h1, inR, a1, a2, hlen]; intros; omega)))
    ·
     skip
     refine AOps.off' rfl rfl rfl rfl ?_
     refine AOps.off' rfl rfl rfl rfl ?_
     refine AOps.off' rfl rfl rfl rfl ?_
     refine Y (Yields.pick_false rfl rfl) rfl ?_
     refine Y (mv rfl) rfl ?_
     refine AOps.off' rfl rfl rfl rfl ?_
     refine AOps.off' rfl rfl rfl rfl ?_
     refine AOps.off' rfl rfl rfl rfl ?_
     refine AOps.off' rfl rfl rfl rfl ?_
     refine Y (Yields.pick_false rfl rfl) rfl ?_
     refine Y (ass rfl) rfl ?_
     refine AOps.nil ?_
     refine AWP.ret ⟨.inl rfl, ?_⟩
     exact RetIs.oneV rfl rfl (congrArg (fun b => AV.val (Value.bool b)) (by rw [Bool.eq_iff_iff]; first | (simp [validV, h1, inR, hlen]; done) | (simp [validV, h1, inR, hlen]; omega) | (simp_all [validV, h1, inR, hlen]; done) | (simp_all [validV, h1, inR, hlen]; omega) | (simp_all [validV, h1, inR, hlen]; intros; omega)))
   ·
    replace h1 := ne_of_beq_false h1
    refine AWP.seq ?_
    refine AWP.region ?_
    refine Y (bn rfl rfl BinR.eql rfl) rfl ?_
    refine Y (ass rfl) rfl ?_
    refine AOps.nil ?_
    refine AWP.condT rfl (fun h2 => ?_) (fun h2 => ?_)
    ·
     replace h2 := eq_of_beq h2
     refine AWP.seq ?_
     refine AWP.region ?_
     refine Y (Yields.fieldAddr_ptr fo40_2 rfl) rfl ?_
     refine Y (Yields.load_ptr_field (j := 0) kd9 rfl rfl rfl rfl rfl rfl rfl) rfl ?_
     refine AOps.callro (isWord_AF t (by omega)) rfl rfl rfl ?_
     refine Y (mv rfl) rfl ?_
     refine AOps.split 44 rfl (fun a1 => ?_) (fun a1 => ?_)
     ·
      skip
      refine AOps.on rfl rfl ?_
      refine Y (Yields.fieldAddr_ptr fo40_1 rfl) rfl ?_
      refine AOps.on rfl rfl ?_
      refine Y (Yields.load_ptr_field (j := 0) kd3 rfl rfl rfl rfl rfl rfl rfl) rfl ?_
      refine AOps.on rfl rfl ?_
      refine Y (bn rfl rfl BinR.eql rfl) rfl ?_
      refine Y (Yields.pick_true rfl rfl) rfl ?_
      refine Y (mv rfl) rfl ?_
      refine AOps.split 49 rfl (fun a2 => ?_) (fun a2 => ?_)
      ·
       replace a2 := eq_of_beq a2
       refine AOps.on rfl rfl ?_
       refine Y (Yields.fieldAddr_ptr fo40_3 rfl) rfl ?_
       refine AOps.on rfl rfl ?_
       refine Y (Yields.load_ptr_field (j := 0) kd38 rfl rfl rfl rfl rfl rfl rfl) rfl ?_
       refine AOps.on rfl rfl ?_
       refine Y (Yields.len_ro sl38 rfl) rfl ?_
       refine AOps.on rfl rfl ?_
       refine Y (bn rfl rfl BinR.eql rfl) rfl ?_
       refine Y (Yields.pick_true rfl rfl) rfl ?_
       refine Y (ass rfl) rfl ?_
       refine AOps.nil ?_
       refine AWP.ret ⟨.inl rfl, ?_⟩
       exact RetIs.oneV rfl rfl (congrArg (fun b => AV.val (Value.bool b)) (by rw [Bool.eq_iff_iff]; first | (simp [validV, h2, inR, a1, a2, hlen]; done) | (simp [validV, h2, inR, a1, a2, hlen]; omega) | (simp_all [validV, h2, inR, a1, a2, hlen]; done) | (simp_all [validV, h2, inR, a1, a2, hlen]; omega) | (simp_all [validV, h2, inR, a1, a2, hlen]; intros; omega)))
      ·
       replace a2 := ne_of_beq_false a2
       refine AOps.off' rfl rfl rfl rfl ?_
       refine AOps.off' rfl rfl rfl rfl ?_
       refine AOps.off' rfl rfl rfl rfl ?_
       refine AOps.off' rfl rfl rfl rfl ?_
       refine Y (Yields.pick_false rfl rfl) rfl ?_
       refine Y (ass rfl) rfl ?_
       refine AOps.nil ?_
       refine AWP.ret ⟨.inl rfl, ?_⟩
       exact RetIs.oneV rfl rfl (congrArg (fun b => AV.val (Value.bool b)) (by rw [Bool.eq_iff_iff]; first | (simp [validV, h2, inR, a1, a2, hlen]; done) | (simp [validV, h2, inR, a1, a2, hlen]; omega) | (simp_all [validV, h2, inR, a1, a2, hlen]; done) | (simp_all [validV, h2, inR, a1, a2, hlen]; omega) | (simp_all [validV, h2, inR, a1, a2, hlen]; intros; omega)))
     ·
      skip
      refine AOps.off' rfl rfl rfl rfl ?_
      refine AOps.off' rfl rfl rfl rfl ?_
      refine AOps.off' rfl rfl rfl rfl ?_
      refine Y (Yields.pick_false rfl rfl) rfl ?_
      refine Y (mv rfl) rfl ?_
      refine AOps.off' rfl rfl rfl rfl ?_
      refine AOps.off' rfl rfl rfl rfl ?_
      refine AOps.off' rfl rfl rfl rfl ?_
      refine AOps.off' rfl rfl rfl rfl ?_
      refine Y (Yields.pick_false rfl rfl) rfl ?_
      refine Y (ass rfl) rfl ?_
      refine AOps.nil ?_
      refine AWP.ret ⟨.inl rfl, ?_⟩
      exact RetIs.oneV rfl rfl (congrArg (fun b => AV.val (Value.bool b)) (by rw [Bool.eq_iff_iff]; first | (simp [validV, h2, inR, a1, hlen]; done) | (simp [validV, h2, inR, a1, hlen]; omega) | (simp_all [validV, h2, inR, a1, hlen]; done) | (simp_all [validV, h2, inR, a1, hlen]; omega) | (simp_all [validV, h2, inR, a1, hlen]; intros; omega)))
    ·
     replace h2 := ne_of_beq_false h2
     refine AWP.seq ?_
     refine AWP.region ?_
     refine Y (bn rfl rfl BinR.eql rfl) rfl ?_
     refine Y (ass rfl) rfl ?_
     refine AOps.nil ?_
     refine AWP.condT rfl (fun h3 => ?_) (fun h3 => ?_)
     ·
      replace h3 := eq_of_beq h3
      refine AWP.seq ?_
      refine AWP.region ?_
      refine Y (Yields.fieldAddr_ptr fo40_1 rfl) rfl ?_
      refine Y (Yields.load_ptr_field (j := 0) kd3 rfl rfl rfl rfl rfl rfl rfl) rfl ?_
      refine Y (bn rfl rfl BinR.eql rfl) rfl ?_
      refine Y (mv rfl) rfl ?_
      refine AOps.split 60 rfl (fun a1 => ?_) (fun a1 => ?_)
      ·
       replace a1 := eq_of_beq a1
       refine AOps.on rfl rfl ?_
       refine Y (Yields.fieldAddr_ptr fo40_2 rfl) rfl ?_
       refine AOps.on rfl rfl ?_
       refine Y (Yields.load_ptr_field (j := 0) kd9 rfl rfl rfl rfl rfl rfl rfl) rfl ?_
       refine AOps.on rfl rfl ?_
       refine Y (bn rfl rfl BinR.seql rfl) rfl ?_
       refine Y (Yields.pick_true rfl rfl) rfl ?_
       refine Y (mv rfl) rfl ?_
       refine AOps.split 65 rfl (fun a2 => ?_) (fun a2 => ?_)
       ·
        replace a2 := of_decide_eq_true a2
        refine AOps.on rfl rfl ?_
        refine Y (Yields.fieldAddr_ptr fo40_3 rfl) rfl ?_
        refine AOps.on rfl rfl ?_
        refine Y (Yields.load_ptr_field (j := 0) kd38 rfl rfl rfl rfl rfl rfl rfl) rfl ?_
        refine AOps.on rfl rfl ?_
        refine Y (Yields.len_ro sl38 rfl) rfl ?_
        refine AOps.on rfl rfl ?_
        refine Y (bn rfl rfl BinR.leq rfl) rfl ?_
        refine Y (Yields.pick_true rfl rfl) rfl ?_
        refine Y (mv rfl) rfl ?_
        refine AOps.split 71 rfl (fun a3 => ?_) (fun a3 => ?_)
        ·
         replace a3 := of_decide_eq_true a3
         refine AOps.on rfl rfl ?_
         refine Y (mv rfl) rfl ?_
         refine AOps.on rfl rfl ?_
         refine Y (bn rfl rfl BinR.gtr rfl) rfl ?_
         refine Y (Yields.pick_true rfl rfl) rfl ?_
         refine Y (mv rfl) rfl ?_
         refine AOps.split 75 rfl (fun a4 => ?_) (fun a4 => ?_)
         ·
          replace a4 := of_decide_eq_true a4
          refine AOps.on rfl rfl ?_
          refine Y (Yields.fieldAddr_ptr fo40_3 rfl) rfl ?_
          refine AOps.on rfl rfl ?_
          refine Y (Yields.load_ptr_field (j := 0) kd38 rfl rfl rfl rfl rfl rfl rfl) rfl ?_
          refine AOps.on rfl rfl ?_
          refine Y (mv rfl) rfl ?_
          refine AOps.on rfl rfl ?_
          refine Y (bn rfl rfl (BinR.subI (by omega) (by omega)) rfl) rfl ?_
          refine AOps.on rfl rfl ?_
          refine AOps.callro (hS (by omega)) rfl rfl rfl ?_
          refine Y (Yields.pick_true rfl rfl) rfl ?_
          refine Y (ass rfl) rfl ?_
          refine AOps.nil ?_
          refine AWP.ret ⟨.inl rfl, ?_⟩
          exact RetIs.oneV rfl rfl (congrArg (fun b => AV.val (Value.bool b)) (by rw [Bool.eq_iff_iff]; first | (simp [validV, h3, a1, a2, a4]; done) | (simp [validV, h3, a1, a2, a4]; omega) | (simp_all [validV, h3, a1, a2, a4]; done) | (simp_all [validV, h3, a1, a2, a4]; omega) | (simp_all [validV, h3, a1, a2, a4]; intros; omega)))
         ·
          replace a4 := of_decide_eq_false a4
          refine AOps.off' rfl rfl rfl rfl ?_
          refine AOps.off' rfl rfl rfl rfl ?_
          refine AOps.off' rfl rfl rfl rfl ?_
          refine AOps.off' rfl rfl rfl rfl ?_
          refine AOps.off' rfl rfl rfl rfl ?_
          refine Y (Yields.pick_false rfl rfl) rfl ?_
          refine Y (ass rfl) rfl ?_
          refine AOps.nil ?_
          refine AWP.ret ⟨.inl rfl, ?_⟩
          exact RetIs.oneV rfl rfl (congrArg (fun b => AV.val (Value.bool b)) (by rw [Bool.eq_iff_iff]; first | (simp [validV, h3, a1, a2, a4]; done) | (simp [validV, h3, a1, a2, a4]; omega) | (simp_all [validV, h3, a1, a2, a4]; done) | (simp_all [validV, h3, a1, a2, a4]; omega) | (simp_all [validV, h3, a1, a2, a4]; intros; omega)))
        ·
         replace a3 := of_decide_eq_false a3
         refine AOps.off' rfl rfl rfl rfl ?_
         refine AOps.off' rfl rfl rfl rfl ?_
         refine Y (Yields.pick_false rfl rfl) rfl ?_
         refine Y (mv rfl) rfl ?_
         refine AOps.off' rfl rfl rfl rfl ?_
         refine AOps.off' rfl rfl rfl rfl ?_
         refine AOps.off' rfl rfl rfl rfl ?_
         refine AOps.off' rfl rfl rfl rfl ?_
         refine AOps.off' rfl rfl rfl rfl ?_
         refine Y (Yields.pick_false rfl rfl) rfl ?_
         refine Y (ass rfl) rfl ?_
         refine AOps.nil ?_
         refine AWP.ret ⟨.inl rfl, ?_⟩
         exact RetIs.oneV rfl rfl (congrArg (fun b => AV.val (Value.bool b)) (by rw [Bool.eq_iff_iff]; first | (simp [validV, h3, a1, a2]; done) | (simp [validV, h3, a1, a2]; omega) | (simp_all [validV, h3, a1, a2]; done) | (simp_all [validV, h3, a1, a2]; omega) | (simp_all [validV, h3, a1, a2]; intros; omega)))
       ·
        replace a2 := of_decide_eq_false a2
        refine AOps.off' rfl rfl rfl rfl ?_
        refine AOps.off' rfl rfl rfl rfl ?_
        refine AOps.off' rfl rfl rfl rfl ?_
        refine AOps.off' rfl rfl rfl rfl ?_
        refine Y (Yields.pick_false rfl rfl) rfl ?_
        refine Y (mv rfl) rfl ?_
        refine AOps.off' rfl rfl rfl rfl ?_
        refine AOps.off' rfl rfl rfl rfl ?_
        refine Y (Yields.pick_false rfl rfl) rfl ?_
        refine Y (mv rfl) rfl ?_
        refine AOps.off' rfl rfl rfl rfl ?_
        refine AOps.off' rfl rfl rfl rfl ?_
        refine AOps.off' rfl rfl rfl rfl ?_
        refine AOps.off' rfl rfl rfl rfl ?_
        refine AOps.off' rfl rfl rfl rfl ?_
        refine Y (Yields.pick_false rfl rfl) rfl ?_
        refine Y (ass rfl) rfl ?_
        refine AOps.nil ?_
        refine AWP.ret ⟨.inl rfl, ?_⟩
        exact RetIs.oneV rfl rfl (congrArg (fun b => AV.val (Value.bool b)) (by rw [Bool.eq_iff_iff]; first | (simp [validV, h3, a1, a2]; done) | (simp [validV, h3, a1, a2]; omega) | (simp_all [validV, h3, a1, a2]; done) | (simp_all [validV, h3, a1, a2]; omega) | (simp_all [validV, h3, a1, a2]; intros; omega)))
      ·
       replace a1 := ne_of_beq_false a1
       refine AOps.off' rfl rfl rfl rfl ?_
       refine AOps.off' rfl rfl rfl rfl ?_
       refine AOps.off' rfl rfl rfl rfl ?_
       refine Y (Yields.pick_false rfl rfl) rfl ?_
       refine Y (mv rfl) rfl ?_
       refine AOps.off' rfl rfl rfl rfl ?_
       refine AOps.off' rfl rfl rfl rfl ?_
       refine AOps.off' rfl rfl rfl rfl ?_
       refine AOps.off' rfl rfl rfl rfl ?_
       refine Y (Yields.pick_false rfl rfl) rfl ?_
       refine Y (mv rfl) rfl ?_
       refine AOps.off' rfl rfl rfl rfl ?_
       refine AOps.off' rfl rfl rfl rfl ?_
       refine Y (Yields.pick_false rfl rfl) rfl ?_
       refine Y (mv rfl) rfl ?_
       refine AOps.off' rfl rfl rfl rfl ?_
       refine AOps.off' rfl rfl rfl rfl ?_
       refine AOps.off' rfl rfl rfl rfl ?_
       refine AOps.off' rfl rfl rfl rfl ?_
       refine AOps.off' rfl rfl rfl rfl ?_
       refine Y (Yields.pick_false rfl rfl) rfl ?_
       refine Y (ass rfl) rfl ?_
       refine AOps.nil ?_
       refine AWP.ret ⟨.inl rfl, ?_⟩
       exact RetIs.oneV rfl rfl (congrArg (fun b => AV.val (Value.bool b)) (by rw [Bool.eq_iff_iff]; first | (simp [validV, h3, a1]; done) | (simp [validV, h3, a1]; omega) | (simp_all [validV, h3, a1]; done) | (simp_all [validV, h3, a1]; omega) | (simp_all [validV, h3, a1]; intros; omega)))
     ·
      replace h3 := ne_of_beq_false h3
      refine AWP.seq ?_
      refine AWP.region ?_
      refine Y (bn rfl rfl BinR.eql rfl) rfl ?_
      refine Y (ass rfl) rfl ?_
      refine AOps.nil ?_
      refine AWP.condT rfl (fun h4 => ?_) (fun h4 => ?_)
      ·
       replace h4 := eq_of_beq h4
       refine AWP.seq ?_
       refine AWP.region ?_
       refine Y (Yields.fieldAddr_ptr fo40_1 rfl) rfl ?_
       refine Y (Yields.load_ptr_field (j := 0) kd3 rfl rfl rfl rfl rfl rfl rfl) rfl ?_
       refine Y (bn rfl rfl BinR.eql rfl) rfl ?_
       refine Y (mv rfl) rfl ?_
       refine AOps.split 87 rfl (fun a1 => ?_) (fun a1 => ?_)
       ·
        replace a1 := eq_of_beq a1
        refine AOps.on rfl rfl ?_
        refine Y (Yields.fieldAddr_ptr fo40_2 rfl) rfl ?_
        refine AOps.on rfl rfl ?_
        refine Y (Yields.load_ptr_field (j := 0) kd9 rfl rfl rfl rfl rfl rfl rfl) rfl ?_
        refine AOps.on rfl rfl ?_
        refine AOps.callro (isName_AF t (by omega)) rfl rfl rfl ?_
        refine Y (Yields.pick_true rfl rfl) rfl ?_
        refine Y (mv rfl) rfl ?_
        refine AOps.split 92 rfl (fun a2 => ?_) (fun a2 => ?_)
        ·
         skip
         refine AOps.on rfl rfl ?_
         refine Y (Yields.fieldAddr_ptr fo40_3 rfl) rfl ?_
         refine AOps.on rfl rfl ?_
         refine Y (Yields.load_ptr_field (j := 0) kd38 rfl rfl rfl rfl rfl rfl rfl) rfl ?_
         refine AOps.on rfl rfl ?_
         refine Y (Yields.len_ro sl38 rfl) rfl ?_
         refine AOps.on rfl rfl ?_
         refine AOps.callro (inRange_AF (Tr.avs ks).length 1 4) rfl rfl rfl ?_
         refine Y (Yields.pick_true rfl rfl) rfl ?_
         refine Y (mv rfl) rfl ?_
         refine AOps.split 98 rfl (fun a3 => ?_) (fun a3 => ?_)
         ·
          skip
          refine AOps.on rfl rfl ?_
          refine Y (mv rfl) rfl ?_
          refine AOps.on rfl rfl ?_
          refine Y (bn rfl rfl BinR.gtr rfl) rfl ?_
          refine Y (Yields.pick_true rfl rfl) rfl ?_
          refine Y (mv rfl) rfl ?_
          refine AOps.split 102 rfl (fun a4 => ?_) (fun a4 => ?_)
          ·
           replace a4 := of_decide_eq_true a4
           refine AOps.on rfl rfl ?_
           refine Y (Yields.fieldAddr_ptr fo40_3 rfl) rfl ?_
           refine AOps.on rfl rfl ?_
           refine Y (Yields.load_ptr_field (j := 0) kd38 rfl rfl rfl rfl rfl rfl rfl) rfl ?_
           refine AOps.on rfl rfl ?_
           refine Y (mv rfl) rfl ?_
           refine AOps.on rfl rfl ?_
           refine Y (bn rfl rfl (BinR.subI (by omega) (by omega)) rfl) rfl ?_
           refine AOps.on rfl rfl ?_
           refine AOps.callro (hS (by omega)) rfl rfl rfl ?_
           refine Y (Yields.pick_true rfl rfl) rfl ?_
           refine Y (ass rfl) rfl ?_
           refine AOps.nil ?_
           refine AWP.ret ⟨.inl rfl, ?_⟩
           exact RetIs.oneV rfl rfl (congrArg (fun b => AV.val (Value.bool b)) (by rw [Bool.eq_iff_iff]; first | (simp [validV, h4, inR]; done) | (simp [validV, h4, inR]; omega) | (simp_all [validV, h4, inR]; done) | (simp_all [validV, h4, inR]; omega) | (simp_all [validV, h4, inR]; intros; omega)))
          ·
           replace a4 := of_decide_eq_false a4
           refine AOps.off' rfl rfl rfl rfl ?_
           refine AOps.off' rfl rfl rfl rfl ?_
           refine AOps.off' rfl rfl rfl rfl ?_
           refine AOps.off' rfl rfl rfl rfl ?_
           refine AOps.off' rfl rfl rfl rfl ?_
           refine Y (Yields.pick_false rfl rfl) rfl ?_
           refine Y (ass rfl) rfl ?_
           refine AOps.nil ?_
           refine AWP.ret ⟨.inl rfl, ?_⟩
           exact RetIs.oneV rfl rfl (congrArg (fun b => AV.val (Value.bool b)) (by rw [Bool.eq_iff_iff]; first | (simp [validV, h4, inR]; done) | (simp [validV, h4, inR]; omega) | (simp_all [validV, h4, inR]; done) | (simp_all [validV, h4, inR]; omega) | (simp_all [validV, h4, inR]; intros; omega)))
         ·
          skip
          refine AOps.off' rfl rfl rfl rfl ?_
          refine AOps.off' rfl rfl rfl rfl ?_
          refine Y (Yields.pick_false rfl rfl) rfl ?_
          refine Y (mv rfl) rfl ?_
          refine AOps.off' rfl rfl rfl rfl ?_
          refine AOps.off' rfl rfl rfl rfl ?_
          refine AOps.off' rfl rfl rfl rfl ?_
          refine AOps.off' rfl rfl rfl rfl ?_
          refine AOps.off' rfl rfl rfl rfl ?_
          refine Y (Yields.pick_false rfl rfl) rfl ?_
          refine Y (ass rfl) rfl ?_
          refine AOps.nil ?_
          refine AWP.ret ⟨.inl rfl, ?_⟩
          exact RetIs.oneV rfl rfl (congrArg (fun b => AV.val (Value.bool b)) (by rw [Bool.eq_iff_iff]; first | (simp [validV, h4, inR]; done) | (simp [validV, h4, inR]; omega) | (simp_all [validV, h4, inR]; done) | (simp_all [validV, h4, inR]; omega) | (simp_all [validV, h4, inR]; intros; omega)))
        ·
         skip
         refine AOps.off' rfl rfl rfl rfl ?_
         refine AOps.off' rfl rfl rfl rfl ?_
         refine AOps.off' rfl rfl rfl rfl ?_
         refine AOps.off' rfl rfl rfl rfl ?_
         refine Y (Yields.pick_false rfl rfl) rfl ?_
         refine Y (mv rfl) rfl ?_
         refine AOps.off' rfl rfl rfl rfl ?_
         refine AOps.off' rfl rfl rfl rfl ?_
         refine Y (Yields.pick_false rfl rfl) rfl ?_
         refine Y (mv rfl) rfl ?_
         refine AOps.off' rfl rfl rfl rfl ?_
         refine AOps.off' rfl rfl rfl rfl ?_
         refine AOps.off' rfl rfl rfl rfl ?_
         refine AOps.off' rfl rfl rfl rfl ?_
         refine AOps.off' rfl rfl rfl rfl ?_
         refine Y (Yields.pick_false rfl rfl) rfl ?_
         refine Y (ass rfl) rfl ?_
         refine AOps.nil ?_
         refine AWP.ret ⟨.inl rfl, ?_⟩
         exact RetIs.oneV rfl rfl (congrArg (fun b => AV.val (Value.bool b)) (by rw [Bool.eq_iff_iff]; first | (simp [validV, h4, inR]; done) | (simp [validV, h4, inR]; omega) | (simp_all [validV, h4, inR]; done) | (simp_all [validV, h4, inR]; omega) | (simp_all [validV, h4, inR]; intros; omega)))
       ·
        replace a1 := ne_of_beq_false a1
        refine AOps.off' rfl rfl rfl rfl ?_
        refine AOps.off' rfl rfl rfl rfl ?_
        refine AOps.off' rfl rfl rfl rfl ?_
        refine Y (Yields.pick_false rfl rfl) rfl ?_
        refine Y (mv rfl) rfl ?_
        refine AOps.off' rfl rfl rfl rfl ?_
        refine AOps.off' rfl rfl rfl rfl ?_
        refine AOps.off' rfl rfl rfl rfl ?_
        refine AOps.off' rfl rfl rfl rfl ?_
        refine Y (Yields.pick_false rfl rfl) rfl ?_
        refine Y (mv rfl) rfl ?_
        refine AOps.off' rfl rfl rfl rfl ?_
        refine AOps.off' rfl rfl rfl rfl ?_
        refine Y (Yields.pick_false rfl rfl) rfl ?_
        refine Y (mv rfl) rfl ?_
        refine AOps.off' rfl rfl rfl rfl ?_
        refine AOps.off' rfl rfl rfl rfl ?_
        refine AOps.off' rfl rfl rfl rfl ?_
        refine AOps.off' rfl rfl rfl rfl ?_
        refine AOps.off' rfl rfl rfl rfl ?_
        refine Y (Yields.pick_false rfl rfl) rfl ?_
        refine Y (ass rfl) rfl ?_
        refine AOps.nil ?_
        refine AWP.ret ⟨.inl rfl, ?_⟩
        exact RetIs.oneV rfl rfl (congrArg (fun b => AV.val (Value.bool b)) (by rw [Bool.eq_iff_iff]; first | (simp [validV, h4, inR]; done) | (simp [validV, h4, inR]; omega) | (simp_all [validV, h4, inR]; done) | (simp_all [validV, h4, inR]; omega) | (simp_all [validV, h4, inR]; intros; omega)))
      ·
       replace h4 := ne_of_beq_false h4
       refine AWP.skip ?_
       refine AWP.seq ?_
       refine AWP.region ?_
       refine Y (ass rfl) rfl ?_
       refine AOps.nil ?_
       refine AWP.ret ⟨.inl rfl, ?_⟩
       exact RetIs.oneV rfl rfl (congrArg (fun b => AV.val (Value.bool b)) (by rw [Bool.eq_iff_iff]; first | (simp [validV, h0, h1, h2, h3, h4]; done) | (simp [validV, h0, h1, h2, h3, h4]; omega) | (simp_all [validV, h0, h1, h2, h3, h4]; done) | (simp_all [validV, h0, h1, h2, h3, h4]; omega) | (simp_all [validV, h0, h1, h2, h3, h4]; intros; omega)))
theorem sValueOk_AF (k : Tr) (hk : k.bnd 1000000) : Fn 29 [k.av] (bool (validV k 6)) := by
  obtain ⟨kd, nm, t, ks⟩ := k
  refine AF.intro Tryd.func29 nm29 rfl rfl rfl rfl fun w0 ok0 => ?_
  refine AWP.seq ?_
  refine AWP.region ?_
  refine AOps.box rfl rfl rfl rfl fun b1 => ?_
  refine Y (ass rfl) rfl ?_
  refine AOps.nil ?_
  refine AWP.seq ?_
  refine AWP.region ?_
  refine Y (Yields.load_ptr_agg (j := 0) kd40 rfl rfl rfl rfl) rfl ?_
  refine AOps.callro (validV_AF (.mk kd nm t ks) 6 hk (by omega)) rfl rfl rfl ?_
  refine Y (ass rfl) rfl ?_
  refine AOps.nil ?_
  refine AWP.ret ⟨.inl rfl, ?_⟩
  exact RetIs.oneV rfl rfl (by (rfl) <;> rfl)

def leafV (b : Bool) (t : ByteArray) (ks : List Tr) : Bool := b && (decide (t = ⟨#[]⟩) && decide (ks.length = 0))
mutual
def depthV : Tr → Int → Int × Bool
  | .mk k n t ks, a =>
    if 6 < a then (0, false)
    else if k = 0 then (1, inR n 0 9999 && (decide (t = ⟨#[]⟩) && decide (ks.length = 0)))
    else if k = 1 then (1, (decide (n = 0) || decide (n = 1)) && (decide (t = ⟨#[]⟩) && decide (ks.length = 0)))
    else if k = 2 then (1, decide (n = 0) && (isWordL t.data.toList && decide (ks.length = 0)))
    else if k = 3 ∧ ¬ t = ⟨#[]⟩ then (0, false)
    else if k = 4 ∧ (isNameL t.data.toList = false ∨ ks.length = 0) then (0, false)
    else if k ≠ 3 ∧ k ≠ 4 then (0, false)
    else if n ≠ 0 ∨ 4 < ks.length then (0, false)
    else if (depthL ks (a + 1) 1).2 = false then (0, false) else ((depthL ks (a + 1) 1).1 + 1, true)
def depthL : List Tr → Int → Int → Int × Bool
  | [], _, m => (m, true)
  | k :: ks, a, m => if (depthV k a).2 = false then (0, false) else depthL ks a (max m (depthV k a).1)
end

mutual
theorem depthV_le : ∀ (k : Tr) (a : Int), 1 ≤ a → 0 ≤ (depthV k a).1 ∧ (depthV k a).1 ≤ max (8 - a) 0
  | .mk k n t ks, a, ha => by
    have hL := depthL_le ks (a + 1) 1 (by omega) (by omega)
    unfold depthV
    by_cases g : 6 < a
    · rw [if_pos g]; simp only; omega
    rw [if_neg g]
    by_cases h0 : k = 0
    · rw [if_pos h0]; simp only; omega
    rw [if_neg h0]
    by_cases h1 : k = 1
    · rw [if_pos h1]; simp only; omega
    rw [if_neg h1]
    by_cases h2 : k = 2
    · rw [if_pos h2]; simp only; omega
    rw [if_neg h2]
    by_cases h3 : k = 3 ∧ ¬ t = ⟨#[]⟩
    · rw [if_pos h3]; simp only; omega
    rw [if_neg h3]
    by_cases h4 : k = 4 ∧ (isNameL t.data.toList = false ∨ ks.length = 0)
    · rw [if_pos h4]; simp only; omega
    rw [if_neg h4]
    by_cases h5 : k ≠ 3 ∧ k ≠ 4
    · rw [if_pos h5]; simp only; omega
    rw [if_neg h5]
    by_cases h6 : n ≠ 0 ∨ 4 < ks.length
    · rw [if_pos h6]; simp only; omega
    rw [if_neg h6]
    by_cases h7 : (depthL ks (a + 1) 1).2 = false
    · rw [if_pos h7]; simp only; omega
    rw [if_neg h7]; simp only; omega
theorem depthL_le : ∀ (ks : List Tr) (a m : Int), 1 ≤ a → 0 ≤ m → 0 ≤ (depthL ks a m).1 ∧ (depthL ks a m).1 ≤ max m (8 - a)
  | [], a, m, ha, hm => by simp [depthL]; omega
  | k :: ks, a, m, ha, hm => by
    have h1 := depthV_le k a ha
    have h2 := depthL_le ks a (max m (depthV k a).1) ha (by omega)
    unfold depthL
    split
    · simp; omega
    · omega
end
theorem depth_AF (k : Tr) : ∀ a : Int, k.bnd 1000000 → 1 ≤ a ∧ a ≤ 7 → Fn 56 [k.av, int a] (.tup [int (depthV k a).1, bool (depthV k a).2]) := by
  induction k using Tr.ind
  rename_i kd nm t ks ih
  intro a hk ha
  simp only [Tr.bnd] at hk
  obtain ⟨hk1, hk2, hk3⟩ := hk
  have hlen := Tr.avs_length ks
  refine AF.intro Tryd.func56 nm56 rfl rfl rfl rfl fun w0 ok0 => ?_
  refine AWP.seq ?_
  refine AWP.region ?_
  refine AOps.box rfl rfl rfl rfl fun b1 => ?_
  refine Y (ass rfl) rfl ?_
  refine Y (ass rfl) rfl ?_
  refine AOps.nil ?_
  refine AWP.seq ?_
  refine AWP.seq ?_
  refine AWP.region ?_
  refine Y (mv rfl) rfl ?_
  refine Y (bn rfl rfl BinR.gtr rfl) rfl ?_
  refine AOps.nil ?_
  refine AWP.condT rfl (fun g0 => ?_) (fun g0 => ?_)
  · replace g0 := of_decide_eq_true g0
    refine AWP.seq ?_
    refine AWP.region ?_
    refine Y (ass rfl) rfl ?_
    refine Y (ass rfl) rfl ?_
    refine AOps.nil ?_
    refine AWP.ret ⟨.inl rfl, ?_⟩
    exact RetIs.twoV rfl rfl rfl (tup2 (by first | (simp [depthV, g0]; done) | (simp [depthV, g0]; omega) | (simp_all [depthV, g0]; done) | (simp_all [depthV, g0]; omega) | (simp_all [depthV, g0]; intros; omega)) (by rw [Bool.eq_iff_iff]; first | (simp [depthV, g0]; done) | (simp [depthV, g0]; omega) | (simp_all [depthV, g0]; done) | (simp_all [depthV, g0]; omega) | (simp_all [depthV, g0]; intros; omega)))
  · replace g0 := of_decide_eq_false g0
    refine AWP.skip ?_
    refine AWP.midP (¬ 6 < a ∧ kd ≠ 0 ∧ kd ≠ 1 ∧ kd ≠ 2 ∧ ((kd = 3 ∧ t = ⟨#[]⟩) ∨ (kd = 4 ∧ isNameL t.data.toList = true ∧ ks.length ≠ 0))) [(1, int a), (2, .ptr (some b1) 0 0 4)] [(some b1, ⟨4, [Tr.av (.mk kd nm t ks)]⟩)] ?_ (fun hP => ?_)
    · skip
      refine AWP.seq ?_
      refine AWP.region ?_
      refine Y (Yields.fieldAddr_ptr fo40_0 rfl) rfl ?_
      refine Y (Yields.load_ptr_field (j := 0) kd3 rfl rfl rfl rfl rfl rfl rfl) rfl ?_
      refine AOps.nil ?_
      refine AWP.block ?_
      refine AWP.seq ?_
      refine AWP.region ?_
      refine Y (bn rfl rfl BinR.eql rfl) rfl ?_
      refine Y (ass rfl) rfl ?_
      refine AOps.nil ?_
      refine AWP.condT rfl (fun h0 => ?_) (fun h0 => ?_)
      · replace h0 := eq_of_beq h0
        refine AWP.seq ?_
        refine AWP.prune (tm' := [(0, _), (1, _), (2, _), (4, _), (5, _), (12, _), (14, _), (15, _)]) ⟨rfl, rfl, rfl, rfl, rfl, rfl, rfl, rfl, trivial⟩ ?_
        refine AWP.drawn mixed rfl rfl ?_
        refine D (tm' := [(2, _)]) ⟨rfl, trivial⟩ (DStep.yields (Yields.fieldAddr_ptr fo40_1 rfl)) rfl ?_
        refine D (tm' := [(17, _)]) ⟨rfl, trivial⟩ (DStep.yields (Yields.load_ptr_field (j := 0) kd3 rfl rfl rfl rfl rfl rfl rfl)) rfl ?_
        refine D (tm' := [(18, _)]) ⟨rfl, trivial⟩ (DStep.yields (bn rfl rfl BinR.geq rfl)) rfl ?_
        refine D (tm' := [(19, _)]) ⟨rfl, trivial⟩ (DStep.yields (mv rfl)) rfl ?_
        refine DOps.split 3 rfl (fun a1 => ?_) (fun a1 => ?_)
        · replace a1 := of_decide_eq_true a1
          refine DOps.on rfl rfl ?_
          refine D (tm' := [(2, _)]) ⟨rfl, trivial⟩ (DStep.yields (Yields.fieldAddr_ptr fo40_1 rfl)) rfl ?_
          refine DOps.on rfl rfl ?_
          refine D (tm' := [(21, _)]) ⟨rfl, trivial⟩ (DStep.yields (Yields.load_ptr_field (j := 0) kd3 rfl rfl rfl rfl rfl rfl rfl)) rfl ?_
          refine DOps.on rfl rfl ?_
          refine D (tm' := [(22, _)]) ⟨rfl, trivial⟩ (DStep.yields (bn rfl rfl BinR.leq rfl)) rfl ?_
          refine D (tm' := [(20, _), (23, _)]) ⟨rfl, rfl, trivial⟩ (DStep.yields (Yields.pick_true rfl rfl)) rfl ?_
          refine D (tm' := [(24, _)]) ⟨rfl, trivial⟩ (DStep.yields (mv rfl)) rfl ?_
          refine DOps.split 8 rfl (fun a2 => ?_) (fun a2 => ?_)
          · replace a2 := of_decide_eq_true a2
            refine DOps.on rfl rfl ?_
            refine D (tm' := [(2, _)]) ⟨rfl, trivial⟩ (DStep.yields (Yields.fieldAddr_ptr fo40_2 rfl)) rfl ?_
            refine DOps.on rfl rfl ?_
            refine D (tm' := [(26, _)]) ⟨rfl, trivial⟩ (DStep.yields (Yields.load_ptr_field (j := 0) kd9 rfl rfl rfl rfl rfl rfl rfl)) rfl ?_
            refine DOps.on rfl rfl ?_
            refine D (tm' := [(27, _)]) ⟨rfl, trivial⟩ (DStep.yields (bn rfl rfl BinR.seql rfl)) rfl ?_
            refine D (tm' := [(25, _), (28, _)]) ⟨rfl, rfl, trivial⟩ (DStep.yields (Yields.pick_true rfl rfl)) rfl ?_
            refine D (tm' := [(29, _)]) ⟨rfl, trivial⟩ (DStep.yields (mv rfl)) rfl ?_
            refine DOps.split 13 rfl (fun a3 => ?_) (fun a3 => ?_)
            · replace a3 := of_decide_eq_true a3
              refine DOps.on rfl rfl ?_
              refine D (tm' := [(2, _)]) ⟨rfl, trivial⟩ (DStep.yields (Yields.fieldAddr_ptr fo40_3 rfl)) rfl ?_
              refine DOps.on rfl rfl ?_
              refine D (tm' := [(31, _)]) ⟨rfl, trivial⟩ (DStep.yields (Yields.load_ptr_field (j := 0) kd38 rfl rfl rfl rfl rfl rfl rfl)) rfl ?_
              refine DOps.on rfl rfl ?_
              refine D (tm' := [(32, _)]) ⟨rfl, trivial⟩ (DStep.yields (Yields.len_ro sl38 rfl)) rfl ?_
              refine DOps.on rfl rfl ?_
              refine D (tm' := [(33, _)]) ⟨rfl, trivial⟩ (DStep.yields (bn rfl rfl BinR.eql rfl)) rfl ?_
              refine D (tm' := [(30, _), (34, _)]) ⟨rfl, rfl, trivial⟩ (DStep.yields (Yields.pick_true rfl rfl)) rfl ?_
              refine D (tm' := []) trivial (DStep.yields (ass rfl)) rfl ?_
              refine D (tm' := [(35, _)]) ⟨rfl, trivial⟩ (DStep.yields (ass rfl)) rfl ?_
              refine DOps.nil ?_
              refine AWP.ret ⟨.inl rfl, ?_⟩
              exact RetIs.twoV rfl rfl rfl (tup2 (by first | (simp [depthV, g0, h0, inR, a1, a2, a3, hlen]; done) | (simp [depthV, g0, h0, inR, a1, a2, a3, hlen]; omega) | (simp_all [depthV, g0, h0, inR, a1, a2, a3, hlen]; done) | (simp_all [depthV, g0, h0, inR, a1, a2, a3, hlen]; omega) | (simp_all [depthV, g0, h0, inR, a1, a2, a3, hlen]; intros; omega)) (by rw [Bool.eq_iff_iff]; first | (simp [depthV, g0, h0, inR, a1, a2, a3, hlen]; done) | (simp [depthV, g0, h0, inR, a1, a2, a3, hlen]; omega) | (simp_all [depthV, g0, h0, inR, a1, a2, a3, hlen]; done) | (simp_all [depthV, g0, h0, inR, a1, a2, a3, hlen]; omega) | (simp_all [depthV, g0, h0, inR, a1, a2, a3, hlen]; intros; omega)))
            · replace a3 := of_decide_eq_false a3
              refine DOps.off rfl rfl rfl rfl ?_
              refine DOps.off rfl rfl rfl rfl ?_
              refine DOps.off rfl rfl rfl rfl ?_
              refine DOps.off rfl rfl rfl rfl ?_
              refine D (tm' := [(30, _), (34, _)]) ⟨rfl, rfl, trivial⟩ (DStep.yields (Yields.pick_false rfl rfl)) rfl ?_
              refine D (tm' := []) trivial (DStep.yields (ass rfl)) rfl ?_
              refine D (tm' := [(35, _)]) ⟨rfl, trivial⟩ (DStep.yields (ass rfl)) rfl ?_
              refine DOps.nil ?_
              refine AWP.ret ⟨.inl rfl, ?_⟩
              exact RetIs.twoV rfl rfl rfl (tup2 (by first | (simp [depthV, g0, h0, inR, a1, a2, a3, hlen]; done) | (simp [depthV, g0, h0, inR, a1, a2, a3, hlen]; omega) | (simp_all [depthV, g0, h0, inR, a1, a2, a3, hlen]; done) | (simp_all [depthV, g0, h0, inR, a1, a2, a3, hlen]; omega) | (simp_all [depthV, g0, h0, inR, a1, a2, a3, hlen]; intros; omega)) (by rw [Bool.eq_iff_iff]; first | (simp [depthV, g0, h0, inR, a1, a2, a3, hlen]; done) | (simp [depthV, g0, h0, inR, a1, a2, a3, hlen]; omega) | (simp_all [depthV, g0, h0, inR, a1, a2, a3, hlen]; done) | (simp_all [depthV, g0, h0, inR, a1, a2, a3, hlen]; omega) | (simp_all [depthV, g0, h0, inR, a1, a2, a3, hlen]; intros; omega)))
          · replace a2 := of_decide_eq_false a2
            refine DOps.off rfl rfl rfl rfl ?_
            refine DOps.off rfl rfl rfl rfl ?_
            refine DOps.off rfl rfl rfl rfl ?_
            refine D (tm' := [(25, _), (28, _)]) ⟨rfl, rfl, trivial⟩ (DStep.yields (Yields.pick_false rfl rfl)) rfl ?_
            refine D (tm' := [(29, _)]) ⟨rfl, trivial⟩ (DStep.yields (mv rfl)) rfl ?_
            refine DOps.off rfl rfl rfl rfl ?_
            refine DOps.off rfl rfl rfl rfl ?_
            refine DOps.off rfl rfl rfl rfl ?_
            refine DOps.off rfl rfl rfl rfl ?_
            refine D (tm' := [(30, _), (34, _)]) ⟨rfl, rfl, trivial⟩ (DStep.yields (Yields.pick_false rfl rfl)) rfl ?_
            refine D (tm' := []) trivial (DStep.yields (ass rfl)) rfl ?_
            refine D (tm' := [(35, _)]) ⟨rfl, trivial⟩ (DStep.yields (ass rfl)) rfl ?_
            refine DOps.nil ?_
            refine AWP.ret ⟨.inl rfl, ?_⟩
            exact RetIs.twoV rfl rfl rfl (tup2 (by first | (simp [depthV, g0, h0, inR, a1, a2, hlen]; done) | (simp [depthV, g0, h0, inR, a1, a2, hlen]; omega) | (simp_all [depthV, g0, h0, inR, a1, a2, hlen]; done) | (simp_all [depthV, g0, h0, inR, a1, a2, hlen]; omega) | (simp_all [depthV, g0, h0, inR, a1, a2, hlen]; intros; omega)) (by rw [Bool.eq_iff_iff]; first | (simp [depthV, g0, h0, inR, a1, a2, hlen]; done) | (simp [depthV, g0, h0, inR, a1, a2, hlen]; omega) | (simp_all [depthV, g0, h0, inR, a1, a2, hlen]; done) | (simp_all [depthV, g0, h0, inR, a1, a2, hlen]; omega) | (simp_all [depthV, g0, h0, inR, a1, a2, hlen]; intros; omega)))
        · replace a1 := of_decide_eq_false a1
          refine DOps.off rfl rfl rfl rfl ?_
          refine DOps.off rfl rfl rfl rfl ?_
          refine DOps.off rfl rfl rfl rfl ?_
          refine D (tm' := [(20, _), (23, _)]) ⟨rfl, rfl, trivial⟩ (DStep.yields (Yields.pick_false rfl rfl)) rfl ?_
          refine D (tm' := [(24, _)]) ⟨rfl, trivial⟩ (DStep.yields (mv rfl)) rfl ?_
          refine DOps.off rfl rfl rfl rfl ?_
          refine DOps.off rfl rfl rfl rfl ?_
          refine DOps.off rfl rfl rfl rfl ?_
          refine D (tm' := [(25, _), (28, _)]) ⟨rfl, rfl, trivial⟩ (DStep.yields (Yields.pick_false rfl rfl)) rfl ?_
          refine D (tm' := [(29, _)]) ⟨rfl, trivial⟩ (DStep.yields (mv rfl)) rfl ?_
          refine DOps.off rfl rfl rfl rfl ?_
          refine DOps.off rfl rfl rfl rfl ?_
          refine DOps.off rfl rfl rfl rfl ?_
          refine DOps.off rfl rfl rfl rfl ?_
          refine D (tm' := [(30, _), (34, _)]) ⟨rfl, rfl, trivial⟩ (DStep.yields (Yields.pick_false rfl rfl)) rfl ?_
          refine D (tm' := []) trivial (DStep.yields (ass rfl)) rfl ?_
          refine D (tm' := [(35, _)]) ⟨rfl, trivial⟩ (DStep.yields (ass rfl)) rfl ?_
          refine DOps.nil ?_
          refine AWP.ret ⟨.inl rfl, ?_⟩
          exact RetIs.twoV rfl rfl rfl (tup2 (by first | (simp [depthV, g0, h0, inR, a1, hlen]; done) | (simp [depthV, g0, h0, inR, a1, hlen]; omega) | (simp_all [depthV, g0, h0, inR, a1, hlen]; done) | (simp_all [depthV, g0, h0, inR, a1, hlen]; omega) | (simp_all [depthV, g0, h0, inR, a1, hlen]; intros; omega)) (by rw [Bool.eq_iff_iff]; first | (simp [depthV, g0, h0, inR, a1, hlen]; done) | (simp [depthV, g0, h0, inR, a1, hlen]; omega) | (simp_all [depthV, g0, h0, inR, a1, hlen]; done) | (simp_all [depthV, g0, h0, inR, a1, hlen]; omega) | (simp_all [depthV, g0, h0, inR, a1, hlen]; intros; omega)))
      · replace h0 := ne_of_beq_false h0
        refine AWP.seq ?_
        refine AWP.region ?_
        refine Y (bn rfl rfl BinR.eql rfl) rfl ?_
        refine Y (ass rfl) rfl ?_
        refine AOps.nil ?_
        refine AWP.condT rfl (fun h1 => ?_) (fun h1 => ?_)
        · replace h1 := eq_of_beq h1
          refine AWP.seq ?_
          refine AWP.prune (tm' := [(0, _), (1, _), (2, _), (4, _), (5, _), (12, _), (14, _), (15, _), (36, _)]) ⟨rfl, rfl, rfl, rfl, rfl, rfl, rfl, rfl, rfl, trivial⟩ ?_
          refine AWP.drawn mixed rfl rfl ?_
          refine D (tm' := [(2, _)]) ⟨rfl, trivial⟩ (DStep.yields (Yields.fieldAddr_ptr fo40_1 rfl)) rfl ?_
          refine D (tm' := [(38, _)]) ⟨rfl, trivial⟩ (DStep.yields (Yields.load_ptr_field (j := 0) kd3 rfl rfl rfl rfl rfl rfl rfl)) rfl ?_
          refine D (tm' := [(39, _)]) ⟨rfl, trivial⟩ (DStep.yields (bn rfl rfl BinR.eql rfl)) rfl ?_
          refine D (tm' := [(40, _)]) ⟨rfl, trivial⟩ (DStep.yields (mv rfl)) rfl ?_
          refine DOps.split 3 rfl (fun a1 => ?_) (fun a1 => ?_)
          · replace a1 := eq_of_beq a1
            refine DOps.off rfl rfl rfl rfl ?_
            refine DOps.off rfl rfl rfl rfl ?_
            refine DOps.off rfl rfl rfl rfl ?_
            refine D (tm' := [(41, _), (44, _)]) ⟨rfl, rfl, trivial⟩ (DStep.yields (Yields.pick_true rfl rfl)) rfl ?_
            refine D (tm' := [(45, _)]) ⟨rfl, trivial⟩ (DStep.yields (mv rfl)) rfl ?_
            refine DOps.on rfl rfl ?_
            refine D (tm' := [(2, _)]) ⟨rfl, trivial⟩ (DStep.yields (Yields.fieldAddr_ptr fo40_2 rfl)) rfl ?_
            refine DOps.on rfl rfl ?_
            refine D (tm' := [(47, _)]) ⟨rfl, trivial⟩ (DStep.yields (Yields.load_ptr_field (j := 0) kd9 rfl rfl rfl rfl rfl rfl rfl)) rfl ?_
            refine DOps.on rfl rfl ?_
            refine D (tm' := [(48, _)]) ⟨rfl, trivial⟩ (DStep.yields (bn rfl rfl BinR.seql rfl)) rfl ?_
            refine D (tm' := [(46, _), (49, _)]) ⟨rfl, rfl, trivial⟩ (DStep.yields (Yields.pick_true rfl rfl)) rfl ?_
            refine D (tm' := [(50, _)]) ⟨rfl, trivial⟩ (DStep.yields (mv rfl)) rfl ?_
            refine DOps.split 13 rfl (fun a3 => ?_) (fun a3 => ?_)
            · replace a3 := of_decide_eq_true a3
              refine DOps.on rfl rfl ?_
              refine D (tm' := [(2, _)]) ⟨rfl, trivial⟩ (DStep.yields (Yields.fieldAddr_ptr fo40_3 rfl)) rfl ?_
              refine DOps.on rfl rfl ?_
              refine D (tm' := [(52, _)]) ⟨rfl, trivial⟩ (DStep.yields (Yields.load_ptr_field (j := 0) kd38 rfl rfl rfl rfl rfl rfl rfl)) rfl ?_
              refine DOps.on rfl rfl ?_
              refine D (tm' := [(53, _)]) ⟨rfl, trivial⟩ (DStep.yields (Yields.len_ro sl38 rfl)) rfl ?_
              refine DOps.on rfl rfl ?_
              refine D (tm' := [(54, _)]) ⟨rfl, trivial⟩ (DStep.yields (bn rfl rfl BinR.eql rfl)) rfl ?_
              refine D (tm' := [(51, _), (55, _)]) ⟨rfl, rfl, trivial⟩ (DStep.yields (Yields.pick_true rfl rfl)) rfl ?_
              refine D (tm' := []) trivial (DStep.yields (ass rfl)) rfl ?_
              refine D (tm' := [(56, _)]) ⟨rfl, trivial⟩ (DStep.yields (ass rfl)) rfl ?_
              refine DOps.nil ?_
              refine AWP.ret ⟨.inl rfl, ?_⟩
              exact RetIs.twoV rfl rfl rfl (tup2 (by first | (simp [depthV, g0, h1, inR, a1, a3, hlen]; done) | (simp [depthV, g0, h1, inR, a1, a3, hlen]; omega) | (simp_all [depthV, g0, h1, inR, a1, a3, hlen]; done) | (simp_all [depthV, g0, h1, inR, a1, a3, hlen]; omega) | (simp_all [depthV, g0, h1, inR, a1, a3, hlen]; intros; omega)) (by rw [Bool.eq_iff_iff]; first | (simp [depthV, g0, h1, inR, a1, a3, hlen]; done) | (simp [depthV, g0, h1, inR, a1, a3, hlen]; omega) | (simp_all [depthV, g0, h1, inR, a1, a3, hlen]; done) | (simp_all [depthV, g0, h1, inR, a1, a3, hlen]; omega) | (simp_all [depthV, g0, h1, inR, a1, a3, hlen]; intros; omega)))
            · replace a3 := of_decide_eq_false a3
              refine DOps.off rfl rfl rfl rfl ?_
              refine DOps.off rfl rfl rfl rfl ?_
              refine DOps.off rfl rfl rfl rfl ?_
              refine DOps.off rfl rfl rfl rfl ?_
              refine D (tm' := [(51, _), (55, _)]) ⟨rfl, rfl, trivial⟩ (DStep.yields (Yields.pick_false rfl rfl)) rfl ?_
              refine D (tm' := []) trivial (DStep.yields (ass rfl)) rfl ?_
              refine D (tm' := [(56, _)]) ⟨rfl, trivial⟩ (DStep.yields (ass rfl)) rfl ?_
              refine DOps.nil ?_
              refine AWP.ret ⟨.inl rfl, ?_⟩
              exact RetIs.twoV rfl rfl rfl (tup2 (by first | (simp [depthV, g0, h1, inR, a1, a3, hlen]; done) | (simp [depthV, g0, h1, inR, a1, a3, hlen]; omega) | (simp_all [depthV, g0, h1, inR, a1, a3, hlen]; done) | (simp_all [depthV, g0, h1, inR, a1, a3, hlen]; omega) | (simp_all [depthV, g0, h1, inR, a1, a3, hlen]; intros; omega)) (by rw [Bool.eq_iff_iff]; first | (simp [depthV, g0, h1, inR, a1, a3, hlen]; done) | (simp [depthV, g0, h1, inR, a1, a3, hlen]; omega) | (simp_all [depthV, g0, h1, inR, a1, a3, hlen]; done) | (simp_all [depthV, g0, h1, inR, a1, a3, hlen]; omega) | (simp_all [depthV, g0, h1, inR, a1, a3, hlen]; intros; omega)))
          · replace a1 := ne_of_beq_false a1
            refine DOps.on rfl rfl ?_
            refine D (tm' := [(2, _)]) ⟨rfl, trivial⟩ (DStep.yields (Yields.fieldAddr_ptr fo40_1 rfl)) rfl ?_
            refine DOps.on rfl rfl ?_
            refine D (tm' := [(42, _)]) ⟨rfl, trivial⟩ (DStep.yields (Yields.load_ptr_field (j := 0) kd3 rfl rfl rfl rfl rfl rfl rfl)) rfl ?_
            refine DOps.on rfl rfl ?_
            refine D (tm' := [(43, _)]) ⟨rfl, trivial⟩ (DStep.yields (bn rfl rfl BinR.eql rfl)) rfl ?_
            refine D (tm' := [(41, _), (44, _)]) ⟨rfl, rfl, trivial⟩ (DStep.yields (Yields.pick_false rfl rfl)) rfl ?_
            refine D (tm' := [(45, _)]) ⟨rfl, trivial⟩ (DStep.yields (mv rfl)) rfl ?_
            refine DOps.split 8 rfl (fun a2 => ?_) (fun a2 => ?_)
            · replace a2 := eq_of_beq a2
              refine DOps.on rfl rfl ?_
              refine D (tm' := [(2, _)]) ⟨rfl, trivial⟩ (DStep.yields (Yields.fieldAddr_ptr fo40_2 rfl)) rfl ?_
              refine DOps.on rfl rfl ?_
              refine D (tm' := [(47, _)]) ⟨rfl, trivial⟩ (DStep.yields (Yields.load_ptr_field (j := 0) kd9 rfl rfl rfl rfl rfl rfl rfl)) rfl ?_
              refine DOps.on rfl rfl ?_
              refine D (tm' := [(48, _)]) ⟨rfl, trivial⟩ (DStep.yields (bn rfl rfl BinR.seql rfl)) rfl ?_
              refine D (tm' := [(46, _), (49, _)]) ⟨rfl, rfl, trivial⟩ (DStep.yields (Yields.pick_true rfl rfl)) rfl ?_
              refine D (tm' := [(50, _)]) ⟨rfl, trivial⟩ (DStep.yields (mv rfl)) rfl ?_
              refine DOps.split 13 rfl (fun a3 => ?_) (fun a3 => ?_)
              · replace a3 := of_decide_eq_true a3
                refine DOps.on rfl rfl ?_
                refine D (tm' := [(2, _)]) ⟨rfl, trivial⟩ (DStep.yields (Yields.fieldAddr_ptr fo40_3 rfl)) rfl ?_
                refine DOps.on rfl rfl ?_
                refine D (tm' := [(52, _)]) ⟨rfl, trivial⟩ (DStep.yields (Yields.load_ptr_field (j := 0) kd38 rfl rfl rfl rfl rfl rfl rfl)) rfl ?_
                refine DOps.on rfl rfl ?_
                refine D (tm' := [(53, _)]) ⟨rfl, trivial⟩ (DStep.yields (Yields.len_ro sl38 rfl)) rfl ?_
                refine DOps.on rfl rfl ?_
                refine D (tm' := [(54, _)]) ⟨rfl, trivial⟩ (DStep.yields (bn rfl rfl BinR.eql rfl)) rfl ?_
                refine D (tm' := [(51, _), (55, _)]) ⟨rfl, rfl, trivial⟩ (DStep.yields (Yields.pick_true rfl rfl)) rfl ?_
                refine D (tm' := []) trivial (DStep.yields (ass rfl)) rfl ?_
                refine D (tm' := [(56, _)]) ⟨rfl, trivial⟩ (DStep.yields (ass rfl)) rfl ?_
                refine DOps.nil ?_
                refine AWP.ret ⟨.inl rfl, ?_⟩
                exact RetIs.twoV rfl rfl rfl (tup2 (by first | (simp [depthV, g0, h1, inR, a1, a2, a3, hlen]; done) | (simp [depthV, g0, h1, inR, a1, a2, a3, hlen]; omega) | (simp_all [depthV, g0, h1, inR, a1, a2, a3, hlen]; done) | (simp_all [depthV, g0, h1, inR, a1, a2, a3, hlen]; omega) | (simp_all [depthV, g0, h1, inR, a1, a2, a3, hlen]; intros; omega)) (by rw [Bool.eq_iff_iff]; first | (simp [depthV, g0, h1, inR, a1, a2, a3, hlen]; done) | (simp [depthV, g0, h1, inR, a1, a2, a3, hlen]; omega) | (simp_all [depthV, g0, h1, inR, a1, a2, a3, hlen]; done) | (simp_all [depthV, g0, h1, inR, a1, a2, a3, hlen]; omega) | (simp_all [depthV, g0, h1, inR, a1, a2, a3, hlen]; intros; omega)))
              · replace a3 := of_decide_eq_false a3
                refine DOps.off rfl rfl rfl rfl ?_
                refine DOps.off rfl rfl rfl rfl ?_
                refine DOps.off rfl rfl rfl rfl ?_
                refine DOps.off rfl rfl rfl rfl ?_
                refine D (tm' := [(51, _), (55, _)]) ⟨rfl, rfl, trivial⟩ (DStep.yields (Yields.pick_false rfl rfl)) rfl ?_
                refine D (tm' := []) trivial (DStep.yields (ass rfl)) rfl ?_
                refine D (tm' := [(56, _)]) ⟨rfl, trivial⟩ (DStep.yields (ass rfl)) rfl ?_
                refine DOps.nil ?_
                refine AWP.ret ⟨.inl rfl, ?_⟩
                exact RetIs.twoV rfl rfl rfl (tup2 (by first | (simp [depthV, g0, h1, inR, a1, a2, a3, hlen]; done) | (simp [depthV, g0, h1, inR, a1, a2, a3, hlen]; omega) | (simp_all [depthV, g0, h1, inR, a1, a2, a3, hlen]; done) | (simp_all [depthV, g0, h1, inR, a1, a2, a3, hlen]; omega) | (simp_all [depthV, g0, h1, inR, a1, a2, a3, hlen]; intros; omega)) (by rw [Bool.eq_iff_iff]; first | (simp [depthV, g0, h1, inR, a1, a2, a3, hlen]; done) | (simp [depthV, g0, h1, inR, a1, a2, a3, hlen]; omega) | (simp_all [depthV, g0, h1, inR, a1, a2, a3, hlen]; done) | (simp_all [depthV, g0, h1, inR, a1, a2, a3, hlen]; omega) | (simp_all [depthV, g0, h1, inR, a1, a2, a3, hlen]; intros; omega)))
            · replace a2 := ne_of_beq_false a2
              refine DOps.off rfl rfl rfl rfl ?_
              refine DOps.off rfl rfl rfl rfl ?_
              refine DOps.off rfl rfl rfl rfl ?_
              refine D (tm' := [(46, _), (49, _)]) ⟨rfl, rfl, trivial⟩ (DStep.yields (Yields.pick_false rfl rfl)) rfl ?_
              refine D (tm' := [(50, _)]) ⟨rfl, trivial⟩ (DStep.yields (mv rfl)) rfl ?_
              refine DOps.off rfl rfl rfl rfl ?_
              refine DOps.off rfl rfl rfl rfl ?_
              refine DOps.off rfl rfl rfl rfl ?_
              refine DOps.off rfl rfl rfl rfl ?_
              refine D (tm' := [(51, _), (55, _)]) ⟨rfl, rfl, trivial⟩ (DStep.yields (Yields.pick_false rfl rfl)) rfl ?_
              refine D (tm' := []) trivial (DStep.yields (ass rfl)) rfl ?_
              refine D (tm' := [(56, _)]) ⟨rfl, trivial⟩ (DStep.yields (ass rfl)) rfl ?_
              refine DOps.nil ?_
              refine AWP.ret ⟨.inl rfl, ?_⟩
              exact RetIs.twoV rfl rfl rfl (tup2 (by first | (simp [depthV, g0, h1, inR, a1, a2, hlen]; done) | (simp [depthV, g0, h1, inR, a1, a2, hlen]; omega) | (simp_all [depthV, g0, h1, inR, a1, a2, hlen]; done) | (simp_all [depthV, g0, h1, inR, a1, a2, hlen]; omega) | (simp_all [depthV, g0, h1, inR, a1, a2, hlen]; intros; omega)) (by rw [Bool.eq_iff_iff]; first | (simp [depthV, g0, h1, inR, a1, a2, hlen]; done) | (simp [depthV, g0, h1, inR, a1, a2, hlen]; omega) | (simp_all [depthV, g0, h1, inR, a1, a2, hlen]; done) | (simp_all [depthV, g0, h1, inR, a1, a2, hlen]; omega) | (simp_all [depthV, g0, h1, inR, a1, a2, hlen]; intros; omega)))
        · replace h1 := ne_of_beq_false h1
          refine AWP.seq ?_
          refine AWP.region ?_
          refine Y (bn rfl rfl BinR.eql rfl) rfl ?_
          refine Y (ass rfl) rfl ?_
          refine AOps.nil ?_
          refine AWP.condT rfl (fun h2 => ?_) (fun h2 => ?_)
          · replace h2 := eq_of_beq h2
            refine AWP.seq ?_
            refine AWP.prune (tm' := [(0, _), (1, _), (2, _), (4, _), (5, _), (12, _), (14, _), (15, _), (36, _), (57, _)]) ⟨rfl, rfl, rfl, rfl, rfl, rfl, rfl, rfl, rfl, rfl, trivial⟩ ?_
            refine AWP.drawn mixed rfl rfl ?_
            refine D (tm' := [(2, _)]) ⟨rfl, trivial⟩ (DStep.yields (Yields.fieldAddr_ptr fo40_1 rfl)) rfl ?_
            refine D (tm' := [(59, _)]) ⟨rfl, trivial⟩ (DStep.yields (Yields.load_ptr_field (j := 0) kd3 rfl rfl rfl rfl rfl rfl rfl)) rfl ?_
            refine D (tm' := [(60, _)]) ⟨rfl, trivial⟩ (DStep.yields (bn rfl rfl BinR.eql rfl)) rfl ?_
            refine D (tm' := [(61, _)]) ⟨rfl, trivial⟩ (DStep.yields (mv rfl)) rfl ?_
            refine DOps.split 3 rfl (fun a1 => ?_) (fun a1 => ?_)
            · replace a1 := eq_of_beq a1
              refine DOps.on rfl rfl ?_
              refine D (tm' := [(2, _)]) ⟨rfl, trivial⟩ (DStep.yields (Yields.fieldAddr_ptr fo40_2 rfl)) rfl ?_
              refine DOps.on rfl rfl ?_
              refine D (tm' := [(63, _)]) ⟨rfl, trivial⟩ (DStep.yields (Yields.load_ptr_field (j := 0) kd9 rfl rfl rfl rfl rfl rfl rfl)) rfl ?_
              refine DOps.on rfl rfl ?_
              refine D (tm' := [(64, _)]) ⟨rfl, trivial⟩ (DStep.callro (wordOk_AF t (by omega)) rfl rfl) rfl ?_
              refine D (tm' := [(62, _), (65, _)]) ⟨rfl, rfl, trivial⟩ (DStep.yields (Yields.pick_true rfl rfl)) rfl ?_
              refine D (tm' := [(66, _)]) ⟨rfl, trivial⟩ (DStep.yields (mv rfl)) rfl ?_
              refine DOps.split 8 rfl (fun a2 => ?_) (fun a2 => ?_)
              · skip
                refine DOps.on rfl rfl ?_
                refine D (tm' := [(2, _)]) ⟨rfl, trivial⟩ (DStep.yields (Yields.fieldAddr_ptr fo40_3 rfl)) rfl ?_
                refine DOps.on rfl rfl ?_
                refine D (tm' := [(68, _)]) ⟨rfl, trivial⟩ (DStep.yields (Yields.load_ptr_field (j := 0) kd38 rfl rfl rfl rfl rfl rfl rfl)) rfl ?_
                refine DOps.on rfl rfl ?_
                refine D (tm' := [(69, _)]) ⟨rfl, trivial⟩ (DStep.yields (Yields.len_ro sl38 rfl)) rfl ?_
                refine DOps.on rfl rfl ?_
                refine D (tm' := [(70, _)]) ⟨rfl, trivial⟩ (DStep.yields (bn rfl rfl BinR.eql rfl)) rfl ?_
                refine D (tm' := [(67, _), (71, _)]) ⟨rfl, rfl, trivial⟩ (DStep.yields (Yields.pick_true rfl rfl)) rfl ?_
                refine D (tm' := []) trivial (DStep.yields (ass rfl)) rfl ?_
                refine D (tm' := [(72, _)]) ⟨rfl, trivial⟩ (DStep.yields (ass rfl)) rfl ?_
                refine DOps.nil ?_
                refine AWP.ret ⟨.inl rfl, ?_⟩
                exact RetIs.twoV rfl rfl rfl (tup2 (by first | (simp [depthV, g0, h2, a1, a2, hlen]; done) | (simp [depthV, g0, h2, a1, a2, hlen]; omega) | (simp_all [depthV, g0, h2, a1, a2, hlen]; done) | (simp_all [depthV, g0, h2, a1, a2, hlen]; omega) | (simp_all [depthV, g0, h2, a1, a2, hlen]; intros; omega)) (by rw [Bool.eq_iff_iff]; first | (simp [depthV, g0, h2, a1, a2, hlen]; done) | (simp [depthV, g0, h2, a1, a2, hlen]; omega) | (simp_all [depthV, g0, h2, a1, a2, hlen]; done) | (simp_all [depthV, g0, h2, a1, a2, hlen]; omega) | (simp_all [depthV, g0, h2, a1, a2, hlen]; intros; omega)))
              · skip
                refine DOps.off rfl rfl rfl rfl ?_
                refine DOps.off rfl rfl rfl rfl ?_
                refine DOps.off rfl rfl rfl rfl ?_
                refine DOps.off rfl rfl rfl rfl ?_
                refine D (tm' := [(67, _), (71, _)]) ⟨rfl, rfl, trivial⟩ (DStep.yields (Yields.pick_false rfl rfl)) rfl ?_
                refine D (tm' := []) trivial (DStep.yields (ass rfl)) rfl ?_
                refine D (tm' := [(72, _)]) ⟨rfl, trivial⟩ (DStep.yields (ass rfl)) rfl ?_
                refine DOps.nil ?_
                refine AWP.ret ⟨.inl rfl, ?_⟩
                exact RetIs.twoV rfl rfl rfl (tup2 (by first | (simp [depthV, g0, h2, a1, a2, hlen]; done) | (simp [depthV, g0, h2, a1, a2, hlen]; omega) | (simp_all [depthV, g0, h2, a1, a2, hlen]; done) | (simp_all [depthV, g0, h2, a1, a2, hlen]; omega) | (simp_all [depthV, g0, h2, a1, a2, hlen]; intros; omega)) (by rw [Bool.eq_iff_iff]; first | (simp [depthV, g0, h2, a1, a2, hlen]; done) | (simp [depthV, g0, h2, a1, a2, hlen]; omega) | (simp_all [depthV, g0, h2, a1, a2, hlen]; done) | (simp_all [depthV, g0, h2, a1, a2, hlen]; omega) | (simp_all [depthV, g0, h2, a1, a2, hlen]; intros; omega)))
            · replace a1 := ne_of_beq_false a1
              refine DOps.off rfl rfl rfl rfl ?_
              refine DOps.off rfl rfl rfl rfl ?_
              refine DOps.off rfl rfl rfl rfl ?_
              refine D (tm' := [(62, _), (65, _)]) ⟨rfl, rfl, trivial⟩ (DStep.yields (Yields.pick_false rfl rfl)) rfl ?_
              refine D (tm' := [(66, _)]) ⟨rfl, trivial⟩ (DStep.yields (mv rfl)) rfl ?_
              refine DOps.off rfl rfl rfl rfl ?_
              refine DOps.off rfl rfl rfl rfl ?_
              refine DOps.off rfl rfl rfl rfl ?_
              refine DOps.off rfl rfl rfl rfl ?_
              refine D (tm' := [(67, _), (71, _)]) ⟨rfl, rfl, trivial⟩ (DStep.yields (Yields.pick_false rfl rfl)) rfl ?_
              refine D (tm' := []) trivial (DStep.yields (ass rfl)) rfl ?_
              refine D (tm' := [(72, _)]) ⟨rfl, trivial⟩ (DStep.yields (ass rfl)) rfl ?_
              refine DOps.nil ?_
              refine AWP.ret ⟨.inl rfl, ?_⟩
              exact RetIs.twoV rfl rfl rfl (tup2 (by first | (simp [depthV, g0, h2, a1, hlen]; done) | (simp [depthV, g0, h2, a1, hlen]; omega) | (simp_all [depthV, g0, h2, a1, hlen]; done) | (simp_all [depthV, g0, h2, a1, hlen]; omega) | (simp_all [depthV, g0, h2, a1, hlen]; intros; omega)) (by rw [Bool.eq_iff_iff]; first | (simp [depthV, g0, h2, a1, hlen]; done) | (simp [depthV, g0, h2, a1, hlen]; omega) | (simp_all [depthV, g0, h2, a1, hlen]; done) | (simp_all [depthV, g0, h2, a1, hlen]; omega) | (simp_all [depthV, g0, h2, a1, hlen]; intros; omega)))
          · replace h2 := ne_of_beq_false h2
            refine AWP.seq ?_
            refine AWP.region ?_
            refine Y (bn rfl rfl BinR.eql rfl) rfl ?_
            refine Y (ass rfl) rfl ?_
            refine AOps.nil ?_
            refine AWP.condT rfl (fun h3 => ?_) (fun h3 => ?_)
            · replace h3 := eq_of_beq h3
              refine AWP.seq ?_
              refine AWP.region ?_
              refine Y (Yields.fieldAddr_ptr fo40_2 rfl) rfl ?_
              refine Y (Yields.load_ptr_field (j := 0) kd9 rfl rfl rfl rfl rfl rfl rfl) rfl ?_
              refine Y (bn rfl rfl BinR.sneq rfl) rfl ?_
              refine AOps.nil ?_
              refine AWP.condT rfl (fun a1 => ?_) (fun a1 => ?_)
              · replace a1 := of_decide_eq_true a1
                refine AWP.seq ?_
                refine AWP.region ?_
                refine Y (ass rfl) rfl ?_
                refine Y (ass rfl) rfl ?_
                refine AOps.nil ?_
                refine AWP.ret ⟨.inl rfl, ?_⟩
                exact RetIs.twoV rfl rfl rfl (tup2 (by first | (simp [depthV, g0, h3, a1]; done) | (simp [depthV, g0, h3, a1]; omega) | (simp_all [depthV, g0, h3, a1]; done) | (simp_all [depthV, g0, h3, a1]; omega) | (simp_all [depthV, g0, h3, a1]; intros; omega)) (by rw [Bool.eq_iff_iff]; first | (simp [depthV, g0, h3, a1]; done) | (simp [depthV, g0, h3, a1]; omega) | (simp_all [depthV, g0, h3, a1]; done) | (simp_all [depthV, g0, h3, a1]; omega) | (simp_all [depthV, g0, h3, a1]; intros; omega)))
              · replace a1 := Decidable.of_not_not (of_decide_eq_false a1)
                refine AWP.skip ?_
                exact ⟨⟨g0, h0, h1, h2, .inl ⟨h3, a1⟩⟩, Leads.rows 0 ⟨rfl, rfl, trivial⟩⟩
            · replace h3 := ne_of_beq_false h3
              refine AWP.seq ?_
              refine AWP.region ?_
              refine Y (bn rfl rfl BinR.eql rfl) rfl ?_
              refine Y (ass rfl) rfl ?_
              refine AOps.nil ?_
              refine AWP.condT rfl (fun h4 => ?_) (fun h4 => ?_)
              · replace h4 := eq_of_beq h4
                refine AWP.seq ?_
                refine AWP.region ?_
                refine Y (Yields.fieldAddr_ptr fo40_2 rfl) rfl ?_
                refine Y (Yields.load_ptr_field (j := 0) kd9 rfl rfl rfl rfl rfl rfl rfl) rfl ?_
                refine AOps.callro (nameOk_AF t (by omega)) rfl rfl rfl ?_
                refine Y (Yields.not rfl) rfl ?_
                refine Y (mv rfl) rfl ?_
                refine AOps.split 84 rfl (fun a1 => ?_) (fun a1 => ?_)
                · skip
                  refine AOps.off' rfl rfl rfl rfl ?_
                  refine AOps.off' rfl rfl rfl rfl ?_
                  refine AOps.off' rfl rfl rfl rfl ?_
                  refine AOps.off' rfl rfl rfl rfl ?_
                  refine Y (Yields.pick_true rfl rfl) rfl ?_
                  refine AOps.nil ?_
                  refine AWP.cond rfl (fun _ => ?_) (fun h => absurd h (by decide))
                  refine AWP.seq ?_
                  refine AWP.region ?_
                  refine Y (ass rfl) rfl ?_
                  refine Y (ass rfl) rfl ?_
                  refine AOps.nil ?_
                  refine AWP.ret ⟨.inl rfl, ?_⟩
                  exact RetIs.twoV rfl rfl rfl (tup2 (by first | (simp [depthV, g0, h4, a1]; done) | (simp [depthV, g0, h4, a1]; omega) | (simp_all [depthV, g0, h4, a1]; done) | (simp_all [depthV, g0, h4, a1]; omega) | (simp_all [depthV, g0, h4, a1]; intros; omega)) (by rw [Bool.eq_iff_iff]; first | (simp [depthV, g0, h4, a1]; done) | (simp [depthV, g0, h4, a1]; omega) | (simp_all [depthV, g0, h4, a1]; done) | (simp_all [depthV, g0, h4, a1]; omega) | (simp_all [depthV, g0, h4, a1]; intros; omega)))
                · skip
                  refine AOps.on rfl rfl ?_
                  refine Y (Yields.fieldAddr_ptr fo40_3 rfl) rfl ?_
                  refine AOps.on rfl rfl ?_
                  refine Y (Yields.load_ptr_field (j := 0) kd38 rfl rfl rfl rfl rfl rfl rfl) rfl ?_
                  refine AOps.on rfl rfl ?_
                  refine Y (Yields.len_ro sl38 rfl) rfl ?_
                  refine AOps.on rfl rfl ?_
                  refine Y (bn rfl rfl BinR.eql rfl) rfl ?_
                  refine Y (Yields.pick_false rfl rfl) rfl ?_
                  refine AOps.nil ?_
                  refine AWP.condT rfl (fun a2 => ?_) (fun a2 => ?_)
                  · replace a2 := eq_of_beq a2
                    refine AWP.seq ?_
                    refine AWP.region ?_
                    refine Y (ass rfl) rfl ?_
                    refine Y (ass rfl) rfl ?_
                    refine AOps.nil ?_
                    refine AWP.ret ⟨.inl rfl, ?_⟩
                    exact RetIs.twoV rfl rfl rfl (tup2 (by first | (simp [depthV, g0, h4, a1, a2]; done) | (simp [depthV, g0, h4, a1, a2]; omega) | (simp_all [depthV, g0, h4, a1, a2]; done) | (simp_all [depthV, g0, h4, a1, a2]; omega) | (simp_all [depthV, g0, h4, a1, a2]; intros; omega)) (by rw [Bool.eq_iff_iff]; first | (simp [depthV, g0, h4, a1, a2]; done) | (simp [depthV, g0, h4, a1, a2]; omega) | (simp_all [depthV, g0, h4, a1, a2]; done) | (simp_all [depthV, g0, h4, a1, a2]; omega) | (simp_all [depthV, g0, h4, a1, a2]; intros; omega)))
                  · replace a2 := ne_of_beq_false a2
                    refine AWP.skip ?_
                    exact ⟨⟨g0, h0, h1, h2, .inr ⟨h4, by simpa using a1, by omega⟩⟩, Leads.rows 0 ⟨rfl, rfl, trivial⟩⟩
              · replace h4 := ne_of_beq_false h4
                refine AWP.seq ?_
                refine AWP.region ?_
                refine Y (ass rfl) rfl ?_
                refine Y (ass rfl) rfl ?_
                refine AOps.nil ?_
                refine AWP.ret ⟨.inl rfl, ?_⟩
                exact RetIs.twoV rfl rfl rfl (tup2 (by first | (simp [depthV, g0, h0, h1, h2, h3, h4]; done) | (simp [depthV, g0, h0, h1, h2, h3, h4]; omega) | (simp_all [depthV, g0, h0, h1, h2, h3, h4]; done) | (simp_all [depthV, g0, h0, h1, h2, h3, h4]; omega) | (simp_all [depthV, g0, h0, h1, h2, h3, h4]; intros; omega)) (by rw [Bool.eq_iff_iff]; first | (simp [depthV, g0, h0, h1, h2, h3, h4]; done) | (simp [depthV, g0, h0, h1, h2, h3, h4]; omega) | (simp_all [depthV, g0, h0, h1, h2, h3, h4]; done) | (simp_all [depthV, g0, h0, h1, h2, h3, h4]; omega) | (simp_all [depthV, g0, h0, h1, h2, h3, h4]; intros; omega)))
    · skip
      refine AWP.seq ?_
      refine AWP.seq ?_
      refine AWP.region ?_
      obtain ⟨g0, h0, h1, h2, hP⟩ := hP
      have hD : depthV (.mk kd nm t ks) a = if nm ≠ 0 ∨ 4 < ks.length then (0, false) else if (depthL ks (a + 1) 1).2 = false then (0, false) else ((depthL ks (a + 1) 1).1 + 1, true) := by
         rw [depthV, if_neg g0, if_neg h0, if_neg h1, if_neg h2, if_neg, if_neg, if_neg]
         · rintro ⟨q1, q2⟩; rcases hP with ⟨q, _⟩ | ⟨q, _⟩; exact q1 q; exact q2 q
         · rintro ⟨q1, q2⟩; rcases hP with ⟨q, _⟩ | ⟨q, q3, q4⟩; omega; rcases q2 with q2 | q2; rw [q3] at q2; cases q2; exact q4 q2
         · rintro ⟨q1, q2⟩; rcases hP with ⟨q, q3⟩ | ⟨q, _⟩; exact q2 q3; omega
      refine Y (Yields.fieldAddr_ptr fo40_1 rfl) rfl ?_
      refine Y (Yields.load_ptr_field (j := 0) kd3 rfl rfl rfl rfl rfl rfl rfl) rfl ?_
      refine Y (bn rfl rfl BinR.neq rfl) rfl ?_
      refine Y (mv rfl) rfl ?_
      refine AOps.split 93 rfl (fun a1 => ?_) (fun a1 => ?_)
      · replace a1 := bne_iff_ne.1 a1
        refine AOps.off' rfl rfl rfl rfl ?_
        refine AOps.off' rfl rfl rfl rfl ?_
        refine AOps.off' rfl rfl rfl rfl ?_
        refine AOps.off' rfl rfl rfl rfl ?_
        refine Y (Yields.pick_true rfl rfl) rfl ?_
        refine AOps.nil ?_
        refine AWP.cond rfl (fun _ => ?_) (fun h => absurd h (by decide))
        refine AWP.seq ?_
        refine AWP.region ?_
        refine Y (ass rfl) rfl ?_
        refine Y (ass rfl) rfl ?_
        refine AOps.nil ?_
        refine AWP.ret ⟨.inl rfl, ?_⟩
        exact RetIs.twoV rfl rfl rfl (tup2 (by first | (simp [hD, a1]; done) | (simp [hD, a1]; omega) | (simp_all [hD, a1]; done) | (simp_all [hD, a1]; omega) | (simp_all [hD, a1]; intros; omega)) (by rw [Bool.eq_iff_iff]; first | (simp [hD, a1]; done) | (simp [hD, a1]; omega) | (simp_all [hD, a1]; done) | (simp_all [hD, a1]; omega) | (simp_all [hD, a1]; intros; omega)))
      · replace a1 := bne_eq_false_iff_eq.1 a1
        refine AOps.on rfl rfl ?_
        refine Y (Yields.fieldAddr_ptr fo40_3 rfl) rfl ?_
        refine AOps.on rfl rfl ?_
        refine Y (Yields.load_ptr_field (j := 0) kd38 rfl rfl rfl rfl rfl rfl rfl) rfl ?_
        refine AOps.on rfl rfl ?_
        refine Y (Yields.len_ro sl38 rfl) rfl ?_
        refine AOps.on rfl rfl ?_
        refine Y (bn rfl rfl BinR.gtr rfl) rfl ?_
        refine Y (Yields.pick_false rfl rfl) rfl ?_
        refine AOps.nil ?_
        refine AWP.condT rfl (fun a2 => ?_) (fun a2 => ?_)
        · replace a2 := of_decide_eq_true a2
          refine AWP.seq ?_
          refine AWP.region ?_
          have a2 : 4 < ks.length := by omega
          refine Y (ass rfl) rfl ?_
          refine Y (ass rfl) rfl ?_
          refine AOps.nil ?_
          refine AWP.ret ⟨.inl rfl, ?_⟩
          exact RetIs.twoV rfl rfl rfl (tup2 (by first | (simp [hD, a1, a2]; done) | (simp [hD, a1, a2]; omega) | (simp_all [hD, a1, a2]; done) | (simp_all [hD, a1, a2]; omega) | (simp_all [hD, a1, a2]; intros; omega)) (by rw [Bool.eq_iff_iff]; first | (simp [hD, a1, a2]; done) | (simp [hD, a1, a2]; omega) | (simp_all [hD, a1, a2]; done) | (simp_all [hD, a1, a2]; omega) | (simp_all [hD, a1, a2]; intros; omega)))
        · replace a2 := of_decide_eq_false a2
          have hD' : depthV (.mk kd nm t ks) a = if (depthL ks (a + 1) 1).2 = false then (0, false) else ((depthL ks (a + 1) 1).1 + 1, true) := by rw [hD, if_neg (by omega)]
          refine AWP.skip ?_
          refine AWP.seq ?_
          refine AWP.region ?_
          refine Y (ass rfl) rfl ?_
          refine AOps.nil ?_
          refine AWP.seq ?_
          refine AWP.seq ?_
          refine AWP.region ?_
          refine Y (Yields.fieldAddr_ptr fo40_3 rfl) rfl ?_
          refine Y (Yields.load_ptr_field (j := 0) kd38 rfl rfl rfl rfl rfl rfl rfl) rfl ?_
          refine Y (Yields.len_ro sl38 rfl) rfl ?_
          refine Y (mv rfl) rfl ?_
          refine AOps.nil ?_
          refine AWP.block ?_
          refine AWP.loopV (α := Nat × Int) (fun pp : Nat × Int => match pp with | (i, m) => ⟨[(1, int a), (6, int m), (100, .ro 4 (Tr.avs ks) [] false), (101, int (Tr.avs ks).length), (102, int i)], []⟩) (fun pp : Nat × Int => match pp with | (i, m) => i ≤ ks.length ∧ 0 ≤ m ∧ m ≤ 8 ∧ depthL (ks.drop i) (a + 1) m = depthL ks (a + 1) 1) (fun pp : Nat × Int => match pp with | (i, m) => ks.length - i) ((0, 1)) ?_ ?_ ?_
          · exact Leads.rows 1 ⟨rfl, rfl, rfl, rfl, rfl, trivial⟩
          · show 0 ≤ ks.length ∧ 0 ≤ 1 ∧ 1 ≤ 8 ∧ depthL (ks.drop 0) (a + 1) 1 = depthL ks (a + 1) 1
            exact ⟨Nat.zero_le _, by omega, by omega, rfl⟩
          · rintro ⟨i, m⟩ hinv
            replace hinv : i ≤ ks.length ∧ 0 ≤ m ∧ m ≤ 8 ∧ depthL (ks.drop i) (a + 1) m = depthL ks (a + 1) 1 := hinv
            show AWP _ _ _ _ ⟨[(1, int a), (6, int m), (100, .ro 4 (Tr.avs ks) [] false), (101, int (Tr.avs ks).length), (102, int i)], []⟩
            refine AWP.seq ?_
            refine AWP.region ?_
            obtain ⟨hi, hm0, hm1, hp⟩ := hinv
            refine Y (bn rfl rfl BinR.lss rfl) rfl ?_
            refine AOps.nil ?_
            refine AWP.seq ?_
            refine AWP.condT rfl (fun g => ?_) (fun g => ?_)
            · replace g := of_decide_eq_true g
              obtain ⟨k, hk, hd⟩ := drop_at (l := ks) (i := i) (by omega)
              rw [hd, depthL] at hp
              obtain ⟨ckd, cnm, ct, cks⟩ := k
              refine AWP.skip ?_
              refine AWP.seq ?_
              refine AWP.block ?_
              refine AWP.seq ?_
              refine AWP.region ?_
              refine Y (Yields.idx_roN sl38 rfl rfl rfl rfl (by omega)) rfl ?_
              refine Y (Yields.load_rop_aggV kd40 rfl (Tr.avs_at hk) rfl) rfl ?_
              refine AOps.alloc rfl z40 rfl rfl fun b2 => ?_
              refine AOps.store (j := 0) kd40 rfl rfl rfl rfl rfl rfl ?_
              refine AOps.nil ?_
              refine AWP.seq ?_
              refine AWP.region ?_
              refine Y (Yields.load_ptr_agg (j := 0) kd40 rfl rfl rfl rfl) rfl ?_
              refine Y (mv rfl) rfl ?_
              refine Y (bn rfl rfl (BinR.addI (by omega) (by omega)) rfl) rfl ?_
              refine AOps.callro (ih _ (List.mem_of_getElem? hk) (a + 1) (Tr.bnds_get hk3 hk) (by omega)) rfl rfl rfl ?_
              refine Y (mv rfl) rfl ?_
              refine Y (Yields.extract rfl rfl) rfl ?_
              refine Y (Yields.extract rfl rfl) rfl ?_
              refine Y (ass rfl) rfl ?_
              refine Y (ass rfl) rfl ?_
              refine AOps.nil ?_
              refine AWP.seq ?_
              refine AWP.seq ?_
              refine AWP.region ?_
              refine Y (mv rfl) rfl ?_
              refine Y (Yields.not rfl) rfl ?_
              refine AOps.nil ?_
              refine AWP.condT rfl (fun g2 => ?_) (fun g2 => ?_)
              · skip
                refine AWP.seq ?_
                refine AWP.region ?_
                have g2 : (depthV (.mk ckd cnm ct cks) (a + 1)).2 = false := by simpa using g2
                rw [if_pos g2] at hp
                refine Y (ass rfl) rfl ?_
                refine Y (ass rfl) rfl ?_
                refine AOps.nil ?_
                refine AWP.ret ⟨.inl rfl, ?_⟩
                exact RetIs.twoV rfl rfl rfl (tup2 (by first | (simp [hD', ← hp]; done) | (simp [hD', ← hp]; omega) | (simp_all [hD', ← hp]; done) | (simp_all [hD', ← hp]; omega) | (simp_all [hD', ← hp]; intros; omega)) (by rw [Bool.eq_iff_iff]; first | (simp [hD', ← hp]; done) | (simp [hD', ← hp]; omega) | (simp_all [hD', ← hp]; done) | (simp_all [hD', ← hp]; omega) | (simp_all [hD', ← hp]; intros; omega)))
              · skip
                have g2 : ¬ (depthV (.mk ckd cnm ct cks) (a + 1)).2 = false := by simpa using g2
                rw [if_neg g2] at hp
                have hle := depthV_le (.mk ckd cnm ct cks) (a + 1) (by omega)
                refine AWP.skip ?_
                refine AWP.region ?_
                refine Y (mv rfl) rfl ?_
                refine Y (mv rfl) rfl ?_
                refine Y (Yields.max2 rfl rfl) rfl ?_
                refine Y (ass rfl) rfl ?_
                refine AOps.nil ?_
                refine AWP.region ?_
                refine Y (bn rfl rfl (BinR.addI (by omega) (by omega)) rfl) rfl ?_
                refine Y (mv rfl) rfl ?_
                refine AOps.nil ?_
                refine ⟨(i + 1, max m (depthV (.mk ckd cnm ct cks) (a + 1)).1), ?_, ?_, ?_⟩
                · show ks.length - (i + 1) < ks.length - i
                  omega
                · show (i + 1) ≤ ks.length ∧ 0 ≤ (max m (depthV (.mk ckd cnm ct cks) (a + 1)).1) ∧ (max m (depthV (.mk ckd cnm ct cks) (a + 1)).1) ≤ 8 ∧ depthL (ks.drop (i + 1)) (a + 1) (max m (depthV (.mk ckd cnm ct cks) (a + 1)).1) = depthL ks (a + 1) 1
                  exact ⟨by omega, by omega, by omega, hp⟩
                · exact Leads.rows 1 ⟨rfl, rfl, rfl, rfl, rfl, trivial⟩
            · replace g := of_decide_eq_false g
              rw [List.drop_eq_nil_of_le (by omega), depthL] at hp
              refine AWP.exit ?_
              refine AWP.seq ?_
              refine AWP.region ?_
              refine Y (mv rfl) rfl ?_
              refine Y (bn rfl rfl (BinR.addI (by omega) (by omega)) rfl) rfl ?_
              refine Y (ass rfl) rfl ?_
              refine Y (ass rfl) rfl ?_
              refine AOps.nil ?_
              refine AWP.ret ⟨.inl rfl, ?_⟩
              exact RetIs.twoV rfl rfl rfl (tup2 (by first | (simp [hD', ← hp]; done) | (simp [hD', ← hp]; omega) | (simp_all [hD', ← hp]; done) | (simp_all [hD', ← hp]; omega) | (simp_all [hD', ← hp]; intros; omega)) (by rw [Bool.eq_iff_iff]; first | (simp [hD', ← hp]; done) | (simp [hD', ← hp]; omega) | (simp_all [hD', ← hp]; done) | (simp_all [hD', ← hp]; omega) | (simp_all [hD', ← hp]; intros; omega)))

theorem depthL_valid (a : Int) (ks : List Tr) (ih : ∀ k ∈ ks, ((depthV k a).2 && decide ((depthV k a).1 ≤ 7 - a)) = validV k (7 - a)) : ∀ m : Int, ((depthL ks a m).2 && decide ((depthL ks a m).1 ≤ 7 - a)) = (decide (m ≤ 7 - a) && validVs ks (7 - a)) := by
  induction ks with
  | nil => intro m; rw [depthL, validVs, Bool.true_and, Bool.and_true]
  | cons k ks ihl =>
    intro m
    have hk := ih k (List.mem_cons_self ..)
    have hks := ihl (fun k h => ih k (List.mem_cons_of_mem _ h))
    rw [depthL, validVs, ← hk]
    by_cases h : (depthV k a).2 = false
    · rw [if_pos h, h]; simp
    · rw [if_neg h, hks]
      have h' : (depthV k a).2 = true := by simpa using h
      rw [h']
      rw [Bool.eq_iff_iff]
      simp only [Bool.and_eq_true, decide_eq_true_eq, Bool.true_and]
      constructor
      · rintro ⟨h1, h2⟩; exact ⟨by omega, by omega, h2⟩
      · rintro ⟨h1, h2, h3⟩; exact ⟨by omega, h3⟩
theorem depthL_seven : ∀ (ks : List Tr) (m : Int), ks ≠ [] → (depthL ks 7 m).2 = false
  | [], m, h => absurd rfl h
  | .mk k n t ks' :: ks, m, _ => by
    have e : depthV (.mk k n t ks') 7 = (0, false) := by rw [depthV, if_pos (by omega)]
    rw [depthL, e, if_pos rfl]
theorem depth_valid (k : Tr) : ∀ a : Int, 1 ≤ a ∧ a ≤ 6 → ((depthV k a).2 && decide ((depthV k a).1 ≤ 7 - a)) = validV k (7 - a) := by
  induction k using Tr.ind
  rename_i kd nm t ks ih
  intro a ha
  unfold depthV validV
  rw [if_neg (by omega : ¬ 6 < a)]
  by_cases h0 : kd = 0
  · rw [if_pos h0, if_pos h0]; have : (1 : Int) ≤ 7 - a := by omega
    simp [this]
  rw [if_neg h0, if_neg h0]
  by_cases h1 : kd = 1
  · rw [if_pos h1, if_pos h1]; have : (1 : Int) ≤ 7 - a := by omega
    have e : (decide (nm = 0) || decide (nm = 1)) = inR nm 0 1 := by
      rw [Bool.eq_iff_iff]; simp [inR]; omega
    simp only [e]
    simp [this]
  rw [if_neg h1, if_neg h1]
  by_cases h2 : kd = 2
  · rw [if_pos h2, if_pos h2]; have : (1 : Int) ≤ 7 - a := by omega
    rw [Bool.eq_iff_iff]
    simp [this]
    constructor
    · rintro ⟨q1, q2, q3⟩; exact ⟨q2, q1, q3⟩
    · rintro ⟨q1, q2, q3⟩; exact ⟨q2, q1, q3⟩
  rw [if_neg h2, if_neg h2]
  have key : ((if (depthL ks (a + 1) 1).2 = false then ((0 : Int), false) else ((depthL ks (a + 1) 1).1 + 1, true)).2 && decide ((if (depthL ks (a + 1) 1).2 = false then ((0 : Int), false) else ((depthL ks (a + 1) 1).1 + 1, true)).1 ≤ 7 - a)) = (decide (1 < 7 - a) && validVs ks (7 - a - 1)) := by
    by_cases h6 : a = 6
    · subst h6
      cases ks with
      | nil => simp [depthL]
      | cons k ks =>
        have := depthL_seven (k :: ks) 1 (by simp)
        rw [show (6 : Int) + 1 = 7 by omega, if_pos this]; simp
    · have := depthL_valid (a + 1) ks (fun k hk => ih k hk (a + 1) (by omega)) 1
      rw [show (7 : Int) - a - 1 = 7 - (a + 1) by omega]
      have e : decide (1 < 7 - a) = decide ((1 : Int) ≤ 7 - (a + 1)) := by
        rw [Bool.eq_iff_iff]; simp only [decide_eq_true_eq]; omega
      rw [e, ← this]
      by_cases h : (depthL ks (a + 1) 1).2 = false
      · rw [if_pos h, h]; simp
      · rw [if_neg h]
        have h' : (depthL ks (a + 1) 1).2 = true := by simpa using h
        rw [h', Bool.eq_iff_iff]; simp only [Bool.true_and, decide_eq_true_eq]; omega
  by_cases h3 : kd = 3
  · rw [if_pos h3]
    by_cases ht : t = ⟨#[]⟩
    · rw [if_neg (fun q => q.2 ht), if_neg (by omega), if_neg (by omega)]
      by_cases hn : nm = 0
      · by_cases hl : ks.length ≤ 4
        · rw [if_neg (by omega), key]; simp [hn, ht, hl]
        · rw [if_pos (by omega)]; simp [hl]
      · rw [if_pos (.inl hn)]; simp [hn]
    · rw [if_pos ⟨h3, ht⟩]; simp [ht]
  rw [if_neg h3, if_neg (fun q => h3 q.1)]
  by_cases h4 : kd = 4
  · rw [if_pos h4]
    by_cases hnm : isNameL t.data.toList = true
    · by_cases hl0 : ks.length = 0
      · rw [if_pos ⟨h4, .inr hl0⟩]; simp [inR, hl0]
      · rw [if_neg (by rintro ⟨_, q | q⟩; rw [hnm] at q; cases q; exact hl0 q), if_neg (by omega)]
        by_cases hn : nm = 0
        · by_cases hl : ks.length ≤ 4
          · rw [if_neg (by omega), key]
            have : inR ks.length 1 4 = true := by simp [inR]; omega
            simp [hn, hnm, this]
          · rw [if_pos (by omega)]
            have : inR ks.length 1 4 = false := by simp [inR]; omega
            simp [this]
        · rw [if_pos (.inl hn)]; simp [hn]
    · rw [if_pos ⟨h4, .inl (by simpa using hnm)⟩]; simp [hnm]
  · rw [if_neg h4, if_neg (fun q => h4 q.1), if_pos ⟨h3, h4⟩]; simp
theorem depth_ok (k : Tr) : ((depthV k 1).2 && decide ((depthV k 1).1 ≤ 6)) = validV k 6 := depth_valid k 1 (by omega)

theorem iValueOk_AF (k : Tr) (hk : k.bnd 1000000) : Fn 32 [k.av] (bool (validV k 6)) := by
  have hd := depth_ok k
  obtain ⟨kd, nm, t, ks⟩ := k
  refine AF.intro Tryd.func32 nm32 rfl rfl rfl rfl fun w0 ok0 => ?_
  refine AWP.seq ?_
  refine AWP.region ?_
  refine AOps.box rfl rfl rfl rfl fun b1 => ?_
  refine Y (ass rfl) rfl ?_
  refine AOps.nil ?_
  refine AWP.seq ?_
  refine AWP.region ?_
  refine Y (Yields.load_ptr_agg (j := 0) kd40 rfl rfl rfl rfl) rfl ?_
  refine AOps.callro (depth_AF (.mk kd nm t ks) 1 hk (by omega)) rfl rfl rfl ?_
  refine Y (mv rfl) rfl ?_
  refine Y (Yields.extract rfl rfl) rfl ?_
  refine Y (Yields.extract rfl rfl) rfl ?_
  refine Y (ass rfl) rfl ?_
  refine Y (ass rfl) rfl ?_
  refine AOps.nil ?_
  refine AWP.seq ?_
  refine AWP.region ?_
  refine Y (mv rfl) rfl ?_
  refine Y (mv rfl) rfl ?_
  refine AOps.split 11 rfl (fun h => ?_) (fun h => ?_)
  ·
   skip
   refine AOps.on rfl rfl ?_
   refine Y (mv rfl) rfl ?_
   refine AOps.on rfl rfl ?_
   refine Y (bn rfl rfl BinR.leq rfl) rfl ?_
   refine Y (Yields.pick_true rfl rfl) rfl ?_
   refine Y (ass rfl) rfl ?_
   refine AOps.nil ?_
   refine AWP.ret ⟨.inl rfl, ?_⟩
   exact RetIs.oneV rfl rfl (by (rw [← hd, h, Bool.true_and]) <;> rfl)
  ·
   skip
   refine AOps.off' rfl rfl rfl rfl ?_
   refine AOps.off' rfl rfl rfl rfl ?_
   refine Y (Yields.pick_false rfl rfl) rfl ?_
   refine Y (ass rfl) rfl ?_
   refine AOps.nil ?_
   refine AWP.ret ⟨.inl rfl, ?_⟩
   exact RetIs.oneV rfl rfl (by (rw [← hd, h, Bool.false_and]) <;> rfl)
end Go.Proofs.YtccdgppplkfjfaaDoor
