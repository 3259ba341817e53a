/- Names of an expression; fresh names (the reference's). -/
import Derived.Test.YtccdgppplkfjfaaDoorFree
namespace Go.Proofs.YtccdgppplkfjfaaDoor
open Go Go.Ax Go.Proofs
set_option linter.unusedVariables false
set_option linter.unusedSimpArgs false
set_option maxRecDepth 20000
def namedB (k : Int) : Bool := decide (k = 3) || (decide (k = 11) || decide (k = 12))
mutual
def namesT : Tr → List ByteArray
  | .mk k _ t ks => namesK ks (if namedB k = true then [t] else [])
def namesK : List Tr → List ByteArray → List ByteArray
  | [], out => out
  | k :: ks, out => namesK ks (joinL out (namesT k))
end
mutual
theorem namesT_length : ∀ k : Tr, ((namesT k).length : Int) ≤ sizeT k
  | .mk k n t ks => by
    rw [namesT, sizeT]
    have := namesK_length ks (if namedB k = true then [t] else [])
    split at this <;> simp at this ⊢ <;> simp_all <;> omega
theorem namesK_length : ∀ (ks : List Tr) (out : List ByteArray), ((namesK ks out).length : Int) ≤ out.length + sizeTs ks
  | [], out => by rw [namesK, sizeTs]; omega
  | k :: ks, out => by
    rw [namesK, sizeTs]
    have h1 := namesK_length ks (joinL out (namesT k))
    have h2 := joinL_length (namesT k) out
    have h3 := namesT_length k
    omega
end
def dig (n : Nat) : ByteArray := ⟨#[UInt8.ofNat (48 + n)]⟩
def decB (n : Nat) : ByteArray := if n < 10 then dig n else dig (n / 10) ++ dig (n % 10)
theorem decB_size (n : Nat) : (decB n).size ≤ 2 := by
  unfold decB
  split
  · exact Nat.le_succ 1
  · rw [ByteArray.size_append]; exact Nat.le_refl 2
theorem enc_dig {n : Int} {m : Nat} (h : n = 48 + (m : Int)) (hm : m < 10) : Utf8.encode (IntKind.i32.wrap n) = dig m := by
  have e : IntKind.i32.wrap n = n := by subst h; revert hm; revert m; decide
  rw [e, encode_digit (by omega) (by omega), h, dig]
  congr 3
theorem decimal1_AF (n : Nat) (h : n < 10) : Fn 53 [int n] (str (dig n)) := by
  refine AF.intro Tryd.func53 nm53 rfl rfl rfl rfl fun w0 ok0 => ?_
  refine AWP.seq ?_
  refine AWP.region ?_
  refine Y (ass rfl) rfl ?_
  refine AOps.nil ?_
  refine AWP.seq ?_
  refine AWP.seq ?_
  refine AWP.region ?_
  refine Y (mv rfl) rfl ?_
  refine Y (bn rfl rfl BinR.lss rfl) rfl ?_
  refine AOps.nil ?_
  refine AWP.condT rfl (fun c => ?_) (fun c => ?_)
  ·
   replace c := of_decide_eq_true c
   refine AWP.seq ?_
   refine AWP.region ?_
   refine Y (mv rfl) rfl ?_
   refine Y (bn rfl rfl (BinR.addI (by omega) (by omega)) rfl) rfl ?_
   refine Y (Yields.conv_int Tryd.underlying3 Tryd.underlying21 rfl) rfl ?_
   refine Y (Yields.conv_rune Tryd.underlying21 Tryd.underlying9 rfl) rfl ?_
   refine Y (ass rfl) rfl ?_
   refine AOps.nil ?_
   refine AWP.ret ⟨.inl rfl, ?_⟩
   exact RetIs.oneV rfl rfl (by (rw [enc_dig (m := n) rfl h]) <;> rfl)
  ·
   replace c := of_decide_eq_false c
   omega
theorem decimal_AF (n : Nat) (h : n < 100) : Fn 53 [int n] (str (decB n)) := by
  by_cases h1 : n < 10
  · rw [decB, if_pos h1]; exact decimal1_AF n h1
  have e1 : ((n : Int).tdiv 10) = ((n / 10 : Nat) : Int) := by rw [Int.tdiv_eq_ediv_of_nonneg (by omega)]; rfl
  have e2 : ((n : Int).tmod 10) = ((n % 10 : Nat) : Int) := by rw [Int.tmod_eq_emod_of_nonneg (by omega)]; rfl
  refine AF.intro Tryd.func53 nm53 rfl rfl rfl rfl fun w0 ok0 => ?_
  refine AWP.seq ?_
  refine AWP.region ?_
  refine Y (ass rfl) rfl ?_
  refine AOps.nil ?_
  refine AWP.seq ?_
  refine AWP.seq ?_
  refine AWP.region ?_
  refine Y (mv rfl) rfl ?_
  refine Y (bn rfl rfl BinR.lss rfl) rfl ?_
  refine AOps.nil ?_
  refine AWP.condT rfl (fun c => ?_) (fun c => ?_)
  ·
   replace c := of_decide_eq_true c
   omega
  ·
   replace c := of_decide_eq_false c
   refine AWP.skip ?_
   refine AWP.seq ?_
   refine AWP.region ?_
   refine Y (mv rfl) rfl ?_
   refine Y (bn rfl rfl (BinR.quo (by decide)) rfl) rfl ?_
   refine AOps.leads (Leads.same (t := 10) rfl (show AV.val (.int .i64 _) = int ((n / 10 : Nat) : Int) by rw [e1, wrap_i64_in (by omega) (by omega)])) ?_
   refine AOps.callro (decimal1_AF (n / 10) (by omega)) rfl rfl rfl ?_
   refine Y (mv rfl) rfl ?_
   refine Y (bn rfl rfl (BinR.rem (by decide)) rfl) rfl ?_
   refine Y (bn rfl rfl (BinR.addI (by omega) (by omega)) rfl) rfl ?_
   refine Y (Yields.conv_int Tryd.underlying3 Tryd.underlying21 rfl) rfl ?_
   refine Y (Yields.conv_rune Tryd.underlying21 Tryd.underlying9 rfl) rfl ?_
   refine Y (bn rfl rfl (BinR.sadd (by show (dig (n / 10)).size + (Utf8.encode _).size ≤ _; rw [e2, enc_dig (m := n % 10) (by omega) (by omega)]; show 1 + 1 ≤ _; omega)) rfl) rfl ?_
   refine Y (ass rfl) rfl ?_
   refine AOps.nil ?_
   refine AWP.ret ⟨.inl rfl, ?_⟩
   exact RetIs.oneV rfl rfl (by (rw [decB, if_neg h1, ← enc_dig (n := 48 + ((n % 10 : Nat) : Int)) (m := n % 10) rfl (by omega), ← e2]) <;> rfl)
def digE (s : ByteArray) : Bool := match s.data.toList[s.size - 1]? with | some c => decide (48 ≤ c.toNat) && decide (c.toNat ≤ 57) | none => false
def stripB : Nat → ByteArray → ByteArray
  | 0, s => s
  | n + 1, s => if digE s = true then stripB n (s.extract 0 (s.size - 1)) else s
def stemB (s : ByteArray) : ByteArray := if 6 < (stripB s.size s).size then (stripB s.size s).extract 0 6 else stripB s.size s
theorem stripB_size : ∀ (n : Nat) (s : ByteArray), (stripB n s).size ≤ s.size
  | 0, s => Nat.le_refl _
  | n + 1, s => by
    rw [stripB]
    split
    · have := stripB_size n (s.extract 0 (s.size - 1))
      rw [ByteArray.size_extract] at this
      omega
    · exact Nat.le_refl _
theorem stemB_size (s : ByteArray) : (stemB s).size ≤ 6 := by
  unfold stemB
  split
  · rw [ByteArray.size_extract]; omega
  · omega
theorem strip_end {s : ByteArray} (h : digE s = false) : stripB s.size s = s := by
  cases hs : s.size with
  | zero => rw [stripB]
  | succ n => rw [stripB, if_neg (by rw [h]; simp)]
theorem strip_step {s : ByteArray} (h : digE s = true) (h0 : 0 < s.size) : stripB s.size s = stripB (s.extract 0 (s.size - 1)).size (s.extract 0 (s.size - 1)) := by
  have e : (s.extract 0 (s.size - 1)).size = s.size - 1 := by rw [ByteArray.size_extract]; omega
  rw [e]
  obtain ⟨n, hn⟩ : ∃ n, s.size = n + 1 := ⟨s.size - 1, by omega⟩
  rw [hn, stripB, if_pos h, hn]; rfl
theorem digE_nil {s : ByteArray} (h : ¬ 0 < s.size) : digE s = false := by
  have : s.data.toList[s.size - 1]? = none := List.getElem?_eq_none_iff.2 (by rw [data_length]; omega)
  rw [digE, this]
theorem digE_of {s : ByteArray} {c : UInt8} (h : s.data.toList[s.size - 1]? = some c) : digE s = (decide (48 ≤ c.toNat) && decide (c.toNat ≤ 57)) := by rw [digE, h]
theorem stem_AF (s : ByteArray) (hs : s.size ≤ 140737488355328) : Fn 62 [str s] (str (stemB s)) := by
  refine AF.intro Tryd.func62 nm62 rfl rfl rfl rfl fun w0 ok0 => ?_
  refine AWP.seq ?_
  refine AWP.region ?_
  refine Y (ass rfl) rfl ?_
  refine AOps.nil ?_
  refine AWP.midE (α := ByteArray) (fun u : ByteArray => ⟨[(0, str u)], []⟩) (fun u : ByteArray => u = stripB s.size s) ?_ ?_
  ·
   skip
   refine AWP.block ?_
   refine AWP.loopV (α := ByteArray) (fun u : ByteArray => ⟨[(0, str u)], []⟩) (fun u : ByteArray => u.size ≤ s.size ∧ stripB u.size u = stripB s.size s) (fun u : ByteArray => u.size) (s) ?_ ?_ ?_
   · exact Leads.rows 0 ⟨rfl, trivial⟩
   ·
    show s.size ≤ s.size ∧ stripB s.size s = stripB s.size s
    exact ⟨Nat.le_refl _, rfl⟩
   ·
    rintro u hinv
    refine AWP.seq ?_
    refine AWP.seq ?_
    refine AWP.region ?_
    obtain ⟨h1, h2⟩ := hinv
    refine Y (mv rfl) rfl ?_
    refine Y (Yields.len_str Tryd.underlying9 rfl) rfl ?_
    refine Y (bn rfl rfl BinR.gtr rfl) rfl ?_
    refine Y (mv rfl) rfl ?_
    refine AOps.split 6 rfl (fun g1 => ?_) (fun g1 => ?_)
    ·
     replace g1 := of_decide_eq_true g1
     obtain ⟨c, hc⟩ := byte_at (s := u) (i := u.size - 1) (by omega)
     have hd := digE_of hc
     refine AOps.on rfl rfl ?_
     refine Y (mv rfl) rfl ?_
     refine AOps.on rfl rfl ?_
     refine Y (mv rfl) rfl ?_
     refine AOps.on rfl rfl ?_
     refine Y (Yields.len_str Tryd.underlying9 rfl) rfl ?_
     refine AOps.on rfl rfl ?_
     refine Y (bn rfl rfl (BinR.subI (by omega) (by omega)) rfl) rfl ?_
     refine AOps.on rfl rfl ?_
     refine Y (Yields.idx_strN Tryd.underlying9 rfl rfl (j := u.size - 1) (by omega) hc) rfl ?_
     refine AOps.on rfl rfl ?_
     refine Y (bn rfl rfl BinR.geq rfl) rfl ?_
     refine Y (Yields.pick_true rfl rfl) rfl ?_
     refine Y (mv rfl) rfl ?_
     refine AOps.split 14 rfl (fun g2 => ?_) (fun g2 => ?_)
     ·
      replace g2 := of_decide_eq_true g2
      refine AOps.on rfl rfl ?_
      refine Y (mv rfl) rfl ?_
      refine AOps.on rfl rfl ?_
      refine Y (mv rfl) rfl ?_
      refine AOps.on rfl rfl ?_
      refine Y (Yields.len_str Tryd.underlying9 rfl) rfl ?_
      refine AOps.on rfl rfl ?_
      refine Y (bn rfl rfl (BinR.subI (by omega) (by omega)) rfl) rfl ?_
      refine AOps.on rfl rfl ?_
      refine Y (Yields.idx_strN Tryd.underlying9 rfl rfl (j := u.size - 1) (by omega) hc) rfl ?_
      refine AOps.on rfl rfl ?_
      refine Y (bn rfl rfl BinR.leq rfl) rfl ?_
      refine Y (Yields.pick_true rfl rfl) rfl ?_
      refine AOps.nil ?_
      refine AWP.condT rfl (fun g3 => ?_) (fun g3 => ?_)
      ·
       replace g3 := of_decide_eq_true g3
       refine AWP.skip ?_
       refine AWP.block ?_
       refine AWP.region ?_
       refine Y (mv rfl) rfl ?_
       refine Y (mv rfl) rfl ?_
       refine Y (Yields.len_str Tryd.underlying9 rfl) rfl ?_
       refine Y (bn rfl rfl (BinR.subI (by omega) (by omega)) rfl) rfl ?_
       refine Y (Yields.slice_str Tryd.underlying9 rfl (l := 0) (u := u.size - 1) rfl ⟨.i64, by show some (AV.val (Value.int .i64 _)) = _; congr 3; omega⟩ (by omega) (by omega)) rfl ?_
       refine Y (ass rfl) rfl ?_
       refine AOps.nil ?_
       refine ⟨u.extract 0 (u.size - 1), ?_, ?_, ?_⟩
       ·
        show (u.extract 0 (u.size - 1)).size < u.size
        rw [ByteArray.size_extract]; omega
       ·
        show (u.extract 0 (u.size - 1)).size ≤ s.size ∧ stripB (u.extract 0 (u.size - 1)).size (u.extract 0 (u.size - 1)) = stripB s.size s
        exact ⟨by rw [ByteArray.size_extract]; omega, by rw [← strip_step (by rw [hd]; simp; omega) (by omega)]; exact h2⟩
       · exact Leads.rows 0 ⟨rfl, trivial⟩
      ·
       replace g3 := of_decide_eq_false g3
       refine AWP.exit ?_
       refine ⟨u, ?_, ?_⟩
       ·
        show u = stripB s.size s
        rw [← h2, strip_end (by rw [hd]; simp; omega)]
       · exact Leads.keepR KeepR.nil ⟨rfl, trivial⟩
     ·
      replace g2 := of_decide_eq_false g2
      refine AOps.off' rfl rfl rfl rfl ?_
      refine AOps.off' rfl rfl rfl rfl ?_
      refine AOps.off' rfl rfl rfl rfl ?_
      refine AOps.off' rfl rfl rfl rfl ?_
      refine AOps.off' rfl rfl rfl rfl ?_
      refine AOps.off' rfl rfl rfl rfl ?_
      refine Y (Yields.pick_false rfl rfl) rfl ?_
      refine AOps.nil ?_
      refine AWP.cond rfl (fun h => absurd h (by decide)) (fun _ => ?_)
      refine AWP.exit ?_
      refine ⟨u, ?_, ?_⟩
      ·
       show u = stripB s.size s
       rw [← h2, strip_end (by rw [hd]; simp; omega)]
      · exact Leads.keepR KeepR.nil ⟨rfl, trivial⟩
    ·
     replace g1 := of_decide_eq_false g1
     refine AOps.off' rfl rfl rfl rfl ?_
     refine AOps.off' rfl rfl rfl rfl ?_
     refine AOps.off' rfl rfl rfl rfl ?_
     refine AOps.off' rfl rfl rfl rfl ?_
     refine AOps.off' rfl rfl rfl rfl ?_
     refine AOps.off' rfl rfl rfl rfl ?_
     refine Y (Yields.pick_false rfl rfl) rfl ?_
     refine Y (mv rfl) rfl ?_
     refine AOps.off' rfl rfl rfl rfl ?_
     refine AOps.off' rfl rfl rfl rfl ?_
     refine AOps.off' rfl rfl rfl rfl ?_
     refine AOps.off' rfl rfl rfl rfl ?_
     refine AOps.off' rfl rfl rfl rfl ?_
     refine AOps.off' rfl rfl rfl rfl ?_
     refine Y (Yields.pick_false rfl rfl) rfl ?_
     refine AOps.nil ?_
     refine AWP.cond rfl (fun h => absurd h (by decide)) (fun _ => ?_)
     refine AWP.exit ?_
     refine ⟨u, ?_, ?_⟩
     ·
      show u = stripB s.size s
      rw [← h2, strip_end (digE_nil (by omega))]
     · exact Leads.keepR KeepR.nil ⟨rfl, trivial⟩
  ·
   rintro u hinv
   refine AWP.seq ?_
   refine AWP.seq ?_
   refine AWP.region ?_
   subst hinv
   refine Y (mv rfl) rfl ?_
   refine Y (Yields.len_str Tryd.underlying9 rfl) rfl ?_
   refine Y (bn rfl rfl BinR.gtr rfl) rfl ?_
   refine AOps.nil ?_
   refine AWP.condT rfl (fun c => ?_) (fun c => ?_)
   ·
    replace c := of_decide_eq_true c
    refine AWP.seq ?_
    refine AWP.region ?_
    refine Y (mv rfl) rfl ?_
    refine Y (Yields.slice_str Tryd.underlying9 rfl (l := 0) (u := 6) rfl ⟨.i64, rfl⟩ (by omega) (by omega)) rfl ?_
    refine Y (ass rfl) rfl ?_
    refine AOps.nil ?_
    refine AWP.ret ⟨.inl rfl, ?_⟩
    exact RetIs.oneV rfl rfl (by (rw [stemB, if_pos (by omega)]) <;> rfl)
   ·
    replace c := of_decide_eq_false c
    refine AWP.skip ?_
    refine AWP.seq ?_
    refine AWP.region ?_
    refine Y (mv rfl) rfl ?_
    refine Y (ass rfl) rfl ?_
    refine AOps.nil ?_
    refine AWP.ret ⟨.inl rfl, ?_⟩
    exact RetIs.oneV rfl rfl (by (rw [stemB, if_neg (by omega)]) <;> rfl)
def freshN (name : ByteArray) (l : List ByteArray) : Nat → Nat → ByteArray
  | 0, _ => stemB name ++ ⟨#[57, 57]⟩
  | f + 1, n => if memB l (stemB name ++ decB n) = false ∧ isNameL (stemB name ++ decB n).data.toList = true then stemB name ++ decB n else freshN name l f (n + 1)
def freshB (name : ByteArray) (l : List ByteArray) : ByteArray := if memB l name = false then name else freshN name l 98 1
theorem freshN_size (name : ByteArray) (l : List ByteArray) : ∀ f n : Nat, (freshN name l f n).size ≤ 8
  | 0, n => by
    have := stemB_size name
    rw [freshN, ByteArray.size_append]
    show (stemB name).size + 2 ≤ 8
    omega
  | f + 1, n => by
    rw [freshN]
    split
    · have := stemB_size name
      have := decB_size n
      rw [ByteArray.size_append]
      omega
    · exact freshN_size name l f (n + 1)
theorem freshB_size (name : ByteArray) (l : List ByteArray) : (freshB name l).size ≤ name.size ∨ (freshB name l).size ≤ 8 := by
  unfold freshB
  split
  · exact .inl (Nat.le_refl _)
  · exact .inr (freshN_size name l 98 1)
theorem fresh_AF (name : ByteArray) (l : List ByteArray) (hn : name.size ≤ 1000000) (hl : l.length ≤ 140737488355328) : Fn 36 [str name, .ro 1 (strs l) [] false] (str (freshB name l)) := by
  have hst := stemB_size name
  refine AF.intro Tryd.func36 nm36 rfl rfl rfl rfl fun w0 ok0 => ?_
  refine AWP.seq ?_
  refine AWP.region ?_
  refine Y (ass rfl) rfl ?_
  refine AOps.nil ?_
  refine AWP.seq ?_
  refine AWP.seq ?_
  refine AWP.region ?_
  refine Y (mv rfl) rfl ?_
  refine Y (mv rfl) rfl ?_
  refine AOps.callro (inTexts_AF l [] false name hl) rfl rfl rfl ?_
  refine Y (Yields.not rfl) rfl ?_
  refine AOps.nil ?_
  refine AWP.condT rfl (fun c => ?_) (fun c => ?_)
  ·
   skip
   refine AWP.seq ?_
   refine AWP.region ?_
   refine Y (mv rfl) rfl ?_
   refine Y (ass rfl) rfl ?_
   refine AOps.nil ?_
   refine AWP.ret ⟨.inl rfl, ?_⟩
   exact RetIs.oneV rfl rfl (by (rw [freshB, if_pos (by simpa using c)]) <;> rfl)
  ·
   skip
   refine AWP.skip ?_
   refine AWP.seq ?_
   refine AWP.seq ?_
   refine AWP.region ?_
   refine Y (ass rfl) rfl ?_
   refine AOps.nil ?_
   refine AWP.block ?_
   refine AWP.loopV (α := Nat) (fun n : Nat => ⟨[(0, str name), (1, .ro 1 (strs l) [] false), (5, int n)], []⟩) (fun n : Nat => 1 ≤ n ∧ n ≤ 99 ∧ freshN name l (99 - n) n = freshB name l) (fun n : Nat => 99 - n) (1) ?_ ?_ ?_
   · exact Leads.rows 0 ⟨rfl, rfl, rfl, trivial⟩
   ·
    show 1 ≤ 1 ∧ 1 ≤ 99 ∧ freshN name l (99 - 1) 1 = freshB name l
    exact ⟨by omega, by omega, by rw [freshB, if_neg (by simpa using c)]⟩
   ·
    rintro n hinv
    refine AWP.seq ?_
    refine AWP.seq ?_
    refine AWP.region ?_
    obtain ⟨h1, h2, h3⟩ := hinv
    refine Y (mv rfl) rfl ?_
    refine Y (bn rfl rfl BinR.lss rfl) rfl ?_
    refine AOps.nil ?_
    refine AWP.condT rfl (fun g => ?_) (fun g => ?_)
    ·
     replace g := of_decide_eq_true g
     have hdc := decB_size n
     obtain ⟨f, hf⟩ : ∃ f, 99 - n = f + 1 := ⟨98 - n, by omega⟩
     have hf2 : 99 - (n + 1) = f := by omega
     rw [hf, freshN] at h3
     refine AWP.skip ?_
     refine AWP.seq ?_
     refine AWP.block ?_
     refine AWP.seq ?_
     refine AWP.region ?_
     refine Y (mv rfl) rfl ?_
     refine AOps.callro (stem_AF name (by omega)) rfl rfl rfl ?_
     refine Y (mv rfl) rfl ?_
     refine AOps.callro (decimal_AF n (by omega)) rfl rfl rfl ?_
     refine Y (bn rfl rfl (BinR.sadd (by omega)) rfl) rfl ?_
     refine Y (ass rfl) rfl ?_
     refine AOps.nil ?_
     refine AWP.seq ?_
     refine AWP.region ?_
     refine Y (mv rfl) rfl ?_
     refine Y (mv rfl) rfl ?_
     refine AOps.callro (inTexts_AF l [] false (stemB name ++ decB n) hl) rfl rfl rfl ?_
     refine Y (Yields.not rfl) rfl ?_
     refine Y (mv rfl) rfl ?_
     refine AOps.split 25 rfl (fun g2 => ?_) (fun g2 => ?_)
     ·
      skip
      refine AOps.on rfl rfl ?_
      refine Y (mv rfl) rfl ?_
      refine AOps.on rfl rfl ?_
      refine AOps.callro (isName_AF (stemB name ++ decB n) (by rw [ByteArray.size_append]; omega)) rfl rfl rfl ?_
      refine Y (Yields.pick_true rfl rfl) rfl ?_
      refine AOps.nil ?_
      refine AWP.condT rfl (fun g3 => ?_) (fun g3 => ?_)
      ·
       skip
       refine AWP.seq ?_
       refine AWP.region ?_
       rw [if_pos ⟨by simpa using g2, g3⟩] at h3
       refine Y (mv rfl) rfl ?_
       refine Y (ass rfl) rfl ?_
       refine AOps.nil ?_
       refine AWP.ret ⟨.inl rfl, ?_⟩
       exact RetIs.oneV rfl rfl (by (rw [← h3]) <;> rfl)
      ·
       skip
       rw [if_neg (fun q => absurd q.2 (by rw [g3]; simp))] at h3
       refine AWP.skip ?_
       refine AWP.region ?_
       refine Y (mv rfl) rfl ?_
       refine Y (bn rfl rfl (BinR.addI (by omega) (by omega)) rfl) rfl ?_
       refine Y (ass rfl) rfl ?_
       refine AOps.nil ?_
       refine ⟨n + 1, ?_, ?_, ?_⟩
       ·
        show 99 - (n + 1) < 99 - n
        omega
       ·
        show 1 ≤ (n + 1) ∧ (n + 1) ≤ 99 ∧ freshN name l (99 - (n + 1)) (n + 1) = freshB name l
        exact ⟨by omega, by omega, by rw [hf2]; exact h3⟩
       · exact Leads.rows 0 ⟨rfl, rfl, rfl, trivial⟩
     ·
      skip
      rw [if_neg (fun q => absurd q.1 (by revert g2; simp))] at h3
      refine AOps.off' rfl rfl rfl rfl ?_
      refine AOps.off' rfl rfl rfl rfl ?_
      refine Y (Yields.pick_false rfl rfl) rfl ?_
      refine AOps.nil ?_
      refine AWP.cond rfl (fun h => absurd h (by decide)) (fun _ => ?_)
      refine AWP.skip ?_
      refine AWP.region ?_
      refine Y (mv rfl) rfl ?_
      refine Y (bn rfl rfl (BinR.addI (by omega) (by omega)) rfl) rfl ?_
      refine Y (ass rfl) rfl ?_
      refine AOps.nil ?_
      refine ⟨n + 1, ?_, ?_, ?_⟩
      ·
       show 99 - (n + 1) < 99 - n
       omega
      ·
       show 1 ≤ (n + 1) ∧ (n + 1) ≤ 99 ∧ freshN name l (99 - (n + 1)) (n + 1) = freshB name l
       exact ⟨by omega, by omega, by rw [hf2]; exact h3⟩
      · exact Leads.rows 0 ⟨rfl, rfl, rfl, trivial⟩
    ·
     replace g := of_decide_eq_false g
     have hn99 : n = 99 := by omega
     subst hn99
     refine AWP.exit ?_
     refine AWP.seq ?_
     refine AWP.region ?_
     refine Y (mv rfl) rfl ?_
     refine AOps.callro (stem_AF name (by omega)) rfl rfl rfl ?_
     refine Y (bn rfl rfl (BinR.sadd (by show (stemB name).size + 2 ≤ _; omega)) rfl) rfl ?_
     refine Y (ass rfl) rfl ?_
     refine AOps.nil ?_
     refine AWP.ret ⟨.inl rfl, ?_⟩
     exact RetIs.oneV rfl rfl (by (rw [← h3, freshN]) <;> rfl)
end Go.Proofs.YtccdgppplkfjfaaDoor
