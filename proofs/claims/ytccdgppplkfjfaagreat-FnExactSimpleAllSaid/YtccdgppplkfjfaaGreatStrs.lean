/- Lists of texts: the marks that the laws write and read, equality. -/
import Derived.Test.YtccdgppplkfjfaaGreatElaw
namespace Go.Proofs.YtccdgppplkfjfaaGreat
open Go Go.Ax Go.Proofs
set_option linter.unusedVariables false
set_option linter.unusedSimpArgs false
set_option maxRecDepth 20000

abbrev FnH (f : FuncId) (hp : Hp) (ps : List AV) (post : AV → Hp → Prop) : Prop := AH Tryz.prog gl f hp ps post
theorem plain_strs : ∀ l : List ByteArray, plainL (strs l) = true
  | [] => rfl
  | s :: l => by simp only [strs, List.map_cons, plainL, plainV, Bool.true_and]; exact plain_strs l
theorem viewL_strs (l : List ByteArray) : ViewL (strs l) (strs l) := viewL_refl (plain_strs l)
theorem strs_app (l : List ByteArray) (t : ByteArray) : strs l ++ [str t] = strs (l ++ [t]) := by simp [strs]

theorem bor_strs {hp : Hp} {B : Option Nat} {j : Nat} {l : List ByteArray} (hj : hp[j]? = some (B, ⟨1, strs l⟩)) {len k : Nat} (hl : len = l.length) : Bor hp (.loc B 0 len k 1) (.ro 1 (strs l) [] false) := by
  subst hl
  exact Bor.loc hj (by simp [strs]) (by rw [List.take_of_length_le (by simp [strs])]; exact viewL_strs l)
theorem fz_strs {hp : Hp} {B : Option Nat} (l : List ByteArray) {len k : Nat} (hl : len = l.length) : Fz ((B, ⟨1, strs l⟩) :: hp) (.loc B 0 len k 1) (.ro 1 (strs l) [] false) := (bor_strs (j := 0) rfl hl).fz

def digs (k : Nat) (out : ByteArray) : ByteArray := if h : 0 < k then digs (k / 10) ((⟨#[UInt8.ofNat (48 + k % 10)]⟩ : ByteArray) ++ out) else out
termination_by k
decreasing_by omega
def markTxt (k : Nat) : ByteArray := if k = 0 then ⟨#[109, 48]⟩ else (⟨#[109]⟩ : ByteArray) ++ digs k ⟨#[]⟩
theorem u8_digit (k : Nat) : IntKind.u8.wrap (48 + ((k % 10 : Nat) : Int)) = ((UInt8.ofNat (48 + k % 10)).toNat : Int) := by
  rw [Go.IntWalk.u8_in _ ⟨by omega, by omega⟩, UInt8.toNat_ofNat']
  have : (48 + k % 10) % 2 ^ 8 = 48 + k % 10 := Nat.mod_eq_of_lt (by omega)
  rw [this]; simp
theorem i64_quo (k : Nat) (h : k ≤ 9000000000000000000) : IntKind.i64.wrap ((k : Int).tdiv 10) = ((k / 10 : Nat) : Int) := by
  have : (k : Int).tdiv 10 = ((k / 10 : Nat) : Int) := rfl
  rw [this, wrap_i64_in (by omega) (by omega)]
theorem pow_step {i m : Nat} (hm : 0 < m) (h1 : i < 10 ^ m) : i / 10 < 10 ^ (m - 1) := by
  have e : 10 ^ m = 10 * 10 ^ (m - 1) := by rw [← Nat.pow_succ', Nat.succ_eq_add_one, Nat.sub_add_cancel hm]
  rw [e] at h1
  exact Nat.div_lt_of_lt_mul h1
theorem markText_AF (k : Nat) (hk : k ≤ 9000000000000000000) : Fn 31 [int k] (str (markTxt k)) := by
  refine AF.intro Tryz.func31 nm31 rfl rfl rfl rfl fun w0 ok0 => ?_
  refine AWP.seq ?_
  refine AWP.region ?_
  refine Y (ass rfl) rfl ?_
  refine AOps.nil ?_
  refine AWP.seq ?_
  refine AWP.seq ?_
  refine AWP.region ?_
  refine Y (mv rfl) rfl ?_
  refine Y (bn rfl rfl BinR.leq rfl) rfl ?_
  refine AOps.nil ?_
  refine AWP.condT rfl (fun h => ?_) (fun h => ?_)
  ·
   replace h := of_decide_eq_true h
   refine AWP.seq ?_
   refine AWP.region ?_
   refine Y (ass rfl) rfl ?_
   refine AOps.nil ?_
   refine AWP.ret ⟨.inl rfl, ?_⟩
   exact RetIs.oneV rfl rfl (by (rw [markTxt, if_pos (by omega)]) <;> rfl)
  ·
   replace h := of_decide_eq_false h
   refine AWP.skip ?_
   refine AWP.seq ?_
   refine AWP.region ?_
   refine Y (ass rfl) rfl ?_
   refine AOps.nil ?_
   refine AWP.seq ?_
   refine AWP.block ?_
   refine AWP.loopV (α := Nat × Nat × ByteArray) (fun pp : Nat × Nat × ByteArray => match pp with | (m, i, out) => ⟨[(0, int i), (3, str out)], []⟩) (fun pp : Nat × Nat × ByteArray => match pp with | (m, i, out) => i < 10 ^ m ∧ i ≤ k ∧ out.size + m ≤ 19 ∧ digs i out = digs k ⟨#[]⟩) (fun pp : Nat × Nat × ByteArray => match pp with | (m, i, out) => i) ((19, k, (⟨#[]⟩ : ByteArray))) ?_ ?_ ?_
   · exact Leads.rows 0 ⟨rfl, rfl, trivial⟩
   ·
    show k < 10 ^ 19 ∧ k ≤ k ∧ ((⟨#[]⟩ : ByteArray)).size + 19 ≤ 19 ∧ digs k ((⟨#[]⟩ : ByteArray)) = digs k ⟨#[]⟩
    exact ⟨by omega, Nat.le_refl _, by decide, rfl⟩
   ·
    rintro ⟨m, i, out⟩ hinv
    replace hinv : i < 10 ^ m ∧ i ≤ k ∧ out.size + m ≤ 19 ∧ digs i out = digs k ⟨#[]⟩ := hinv
    show AWP _ _ _ _ ⟨[(0, int i), (3, str out)], []⟩
    refine AWP.seq ?_
    refine AWP.seq ?_
    refine AWP.region ?_
    obtain ⟨h1, h2, h3, h4⟩ := hinv
    refine Y (mv rfl) rfl ?_
    refine Y (bn rfl rfl BinR.gtr rfl) rfl ?_
    refine AOps.nil ?_
    refine AWP.condT rfl (fun g => ?_) (fun g => ?_)
    ·
     replace g := of_decide_eq_true g
     have hm : 0 < m := by rcases Nat.eq_zero_or_pos m with q | q; (subst q; simp at h1; omega); exact q
     refine AWP.skip ?_
     refine AWP.block ?_
     refine AWP.seq ?_
     refine AWP.region ?_
     refine Y (mv rfl) rfl ?_
     refine Y (bn rfl rfl (BinR.rem (by decide)) rfl) rfl ?_
     refine AOps.leads (Leads.same (t := 9) rfl (show AV.val (.int .i64 _) = int ((i % 10 : Nat) : Int) by rfl)) ?_
     refine Y (bn rfl rfl (BinR.addI (by omega) (by omega)) rfl) rfl ?_
     refine Y (Yields.conv_int Tryz.underlying3 Tryz.underlying5 rfl) rfl ?_
     refine AOps.leads (Leads.same (t := 11) rfl (show AV.val (.int .u8 _) = AV.val (.int .u8 ((UInt8.ofNat (48 + i % 10)).toNat : Int)) by rw [← u8_digit])) ?_
     refine AOps.buildSlice sl58 z5 rfl rfl rfl rfl rfl fun b1 => ?_
     refine Y (Yields.conv_bytes_row (j := 0) Tryz.underlying58 Tryz.underlying5 Tryz.underlying9 rfl (l := [UInt8.ofNat (48 + i % 10)]) rfl rfl) rfl ?_
     refine Y (mv rfl) rfl ?_
     refine Y (bn rfl rfl (BinR.sadd (by show (1 : Nat) + out.size ≤ _; omega)) rfl) rfl ?_
     refine Y (ass rfl) rfl ?_
     refine AOps.nil ?_
     refine AWP.region ?_
     refine Y (mv rfl) rfl ?_
     refine Y (bn rfl rfl (BinR.quo (by decide)) rfl) rfl ?_
     refine AOps.leads (Leads.same (t := 17) rfl (show AV.val (.int .i64 _) = int ((i / 10 : Nat) : Int) by rw [← i64_quo i (by omega)])) ?_
     refine Y (ass rfl) rfl ?_
     refine AOps.nil ?_
     refine ⟨(m - 1, i / 10, (⟨#[UInt8.ofNat (48 + i % 10)]⟩ : ByteArray) ++ out), ?_, ?_, ?_⟩
     ·
      show (i / 10) < i
      omega
     ·
      show (i / 10) < 10 ^ (m - 1) ∧ (i / 10) ≤ k ∧ ((⟨#[UInt8.ofNat (48 + i % 10)]⟩ : ByteArray) ++ out).size + (m - 1) ≤ 19 ∧ digs (i / 10) ((⟨#[UInt8.ofNat (48 + i % 10)]⟩ : ByteArray) ++ out) = digs k ⟨#[]⟩
      refine ⟨?_, by omega, ?_, ?_⟩
      · exact pow_step hm h1
      · rw [ByteArray.size_append]; show 1 + out.size + (m - 1) ≤ 19; omega
      · rw [← h4, digs.eq_def i, dif_pos (by omega)]
     · exact Leads.rows 1 ⟨rfl, rfl, trivial⟩
    ·
     replace g := of_decide_eq_false g
     have hi : i = 0 := by omega
     subst hi
     rw [digs.eq_def, dif_neg (by omega)] at h4
     refine AWP.exit ?_
     refine AWP.seq ?_
     refine AWP.region ?_
     refine Y (mv rfl) rfl ?_
     refine Y (bn rfl rfl (BinR.sadd (by show (1 : Nat) + out.size ≤ _; omega)) rfl) rfl ?_
     refine Y (ass rfl) rfl ?_
     refine AOps.nil ?_
     refine AWP.ret ⟨.inl rfl, ?_⟩
     exact RetIs.oneV rfl rfl (by (rw [markTxt, if_neg (by omega), ← h4]) <;> rfl)

def markStrs : List ByteArray → Nat → List ByteArray
  | [], _ => []
  | _ :: l, k => markTxt k :: markStrs l (k + 1)
theorem markStrs_length : ∀ (l : List ByteArray) (k : Nat), (markStrs l k).length = l.length
  | [], _ => rfl
  | _ :: l, k => by simp [markStrs, markStrs_length l]
theorem markStrs_get : ∀ (l : List ByteArray) (k i : Nat), i < l.length → (markStrs l k)[i]? = some (markTxt (k + i))
  | [], _, _, h => by simp at h
  | _ :: l, k, 0, h => by simp [markStrs]
  | _ :: l, k, i + 1, h => by
    simp only [markStrs, List.getElem?_cons_succ]
    rw [markStrs_get l (k + 1) i (by simpa using h)]
    congr 2; omega
theorem markStrs_set {l : List ByteArray} {k i : Nat} (h : i < l.length) : (strs ((markStrs l k).take i ++ l.drop i)).set i (str (markTxt (k + i))) = strs ((markStrs l k).take (i + 1) ++ l.drop (i + 1)) := by
  have h1 : ((markStrs l k).take i).length = i := by rw [List.length_take, markStrs_length]; omega
  have hd : l.drop i = l[i] :: l.drop (i + 1) := List.drop_eq_getElem_cons h
  have h2 : (markStrs l k).take (i + 1) = (markStrs l k).take i ++ [markTxt (k + i)] := by
    rw [List.take_add_one, markStrs_get l k i h]; rfl
  rw [h2, hd]
  have h3 : (strs ((markStrs l k).take i)).length = i := by rw [strs_length, h1]
  simp only [strs, List.map_append, List.map_cons, List.append_assoc, List.cons_append, List.nil_append] at h3 ⊢
  rw [List.set_append_right _ _ (by omega), h3]
  simp
end Go.Proofs.YtccdgppplkfjfaaGreat
