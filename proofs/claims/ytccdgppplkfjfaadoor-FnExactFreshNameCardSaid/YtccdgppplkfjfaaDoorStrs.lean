/- Lists of texts: the marks that the laws write and read, equality. -/
import Derived.Test.YtccdgppplkfjfaaDoorElaw
namespace Go.Proofs.YtccdgppplkfjfaaDoor
open Go Go.Ax Go.Proofs
set_option linter.unusedVariables false
set_option linter.unusedSimpArgs false
set_option maxRecDepth 20000

abbrev FnH (f : FuncId) (hp : Hp) (ps : List AV) (post : AV → Hp → Prop) : Prop := AH Tryd.prog gl f hp ps post
theorem plain_strs : ∀ l : List ByteArray, plainL (strs l) = true
  | [] => rfl
  | s :: l => by simp only [strs, List.map_cons, plainL, plainV, Bool.true_and]; exact plain_strs l
theorem viewL_strs (l : List ByteArray) : ViewL (strs l) (strs l) := viewL_refl (plain_strs l)
theorem strs_app (l : List ByteArray) (t : ByteArray) : strs l ++ [str t] = strs (l ++ [t]) := by simp [strs]

theorem bor_strs {hp : Hp} {B : Option Nat} {j : Nat} {l : List ByteArray} (hj : hp[j]? = some (B, ⟨1, strs l⟩)) {len k : Nat} (hl : len = l.length) : Bor hp (.loc B 0 len k 1) (.ro 1 (strs l) [] false) := by
  subst hl
  exact Bor.loc hj (by simp [strs]) (by rw [List.take_of_length_le (by simp [strs])]; exact viewL_strs l)
theorem fz_strs {hp : Hp} {B : Option Nat} (l : List ByteArray) {len k : Nat} (hl : len = l.length) : Fz ((B, ⟨1, strs l⟩) :: hp) (.loc B 0 len k 1) (.ro 1 (strs l) [] false) := (bor_strs (j := 0) rfl hl).fz

def digs (k : Nat) (out : ByteArray) : ByteArray := if h : 0 < k then digs (k / 10) ((⟨#[UInt8.ofNat (48 + k % 10)]⟩ : ByteArray) ++ out) else out
termination_by k
decreasing_by omega
def markTxt (k : Nat) : ByteArray := if k = 0 then ⟨#[109, 48]⟩ else (⟨#[109]⟩ : ByteArray) ++ digs k ⟨#[]⟩
theorem u8_digit (k : Nat) : IntKind.u8.wrap (48 + ((k % 10 : Nat) : Int)) = ((UInt8.ofNat (48 + k % 10)).toNat : Int) := by
  rw [Go.IntWalk.u8_in _ ⟨by omega, by omega⟩, UInt8.toNat_ofNat']
  have : (48 + k % 10) % 2 ^ 8 = 48 + k % 10 := Nat.mod_eq_of_lt (by omega)
  rw [this]; simp
theorem i64_quo (k : Nat) (h : k ≤ 9000000000000000000) : IntKind.i64.wrap ((k : Int).tdiv 10) = ((k / 10 : Nat) : Int) := by
  have : (k : Int).tdiv 10 = ((k / 10 : Nat) : Int) := rfl
  rw [this, wrap_i64_in (by omega) (by omega)]
theorem pow_step {i m : Nat} (hm : 0 < m) (h1 : i < 10 ^ m) : i / 10 < 10 ^ (m - 1) := by
  have e : 10 ^ m = 10 * 10 ^ (m - 1) := by rw [← Nat.pow_succ', Nat.succ_eq_add_one, Nat.sub_add_cancel hm]
  rw [e] at h1
  exact Nat.div_lt_of_lt_mul h1
theorem eqStringS_AF (a b : List ByteArray) (sa sb : List AV) (ca cb : Bool) (ha : a.length ≤ 140737488355328) : Fn 40 [.ro 1 (strs a) sa ca, .ro 1 (strs b) sb cb] (bool (decide (a = b))) := by
  have hla := strs_length a
  have hlb := strs_length b
  refine AF.intro Tryd.func40 nm40 rfl rfl rfl rfl fun w0 ok0 => ?_
  refine AWP.seq ?_
  refine AWP.region ?_
  refine Y (ass rfl) rfl ?_
  refine AOps.nil ?_
  refine AWP.seq ?_
  refine AWP.seq ?_
  refine AWP.region ?_
  refine Y (mv rfl) rfl ?_
  refine Y (Yields.len_ro sl44 rfl) rfl ?_
  refine Y (mv rfl) rfl ?_
  refine Y (Yields.len_ro sl44 rfl) rfl ?_
  refine Y (bn rfl rfl BinR.neq rfl) rfl ?_
  refine AOps.nil ?_
  refine AWP.condT rfl (fun h => ?_) (fun h => ?_)
  ·
   replace h := bne_iff_ne.1 h
   refine AWP.seq ?_
   refine AWP.region ?_
   refine Y (ass rfl) rfl ?_
   refine AOps.nil ?_
   refine AWP.ret ⟨.inl rfl, ?_⟩
   exact RetIs.oneV rfl rfl (by (rw [decide_eq_false (by rintro rfl; exact h rfl)]) <;> rfl)
  ·
   replace h := bne_eq_false_iff_eq.1 h
   have hlen : a.length = b.length := by omega
   refine AWP.skip ?_
   refine AWP.seq ?_
   refine AWP.seq ?_
   refine AWP.region ?_
   refine Y (ass rfl) rfl ?_
   refine AOps.nil ?_
   refine AWP.block ?_
   refine AWP.loopV (α := Nat) (fun i : Nat => ⟨[(0, .ro 1 (strs a) sa ca), (1, .ro 1 (strs b) sb cb), (5, int i)], []⟩) (fun i : Nat => i ≤ a.length ∧ ∀ j, j < i → a[j]? = b[j]?) (fun i : Nat => a.length - i) (0) ?_ ?_ ?_
   · exact Leads.rows 0 ⟨rfl, rfl, rfl, trivial⟩
   ·
    show 0 ≤ a.length ∧ ∀ j, j < 0 → a[j]? = b[j]?
    exact ⟨Nat.zero_le _, fun j hj => by omega⟩
   ·
    rintro i hinv
    refine AWP.seq ?_
    refine AWP.seq ?_
    refine AWP.region ?_
    obtain ⟨hi, hp⟩ := hinv
    refine Y (mv rfl) rfl ?_
    refine Y (mv rfl) rfl ?_
    refine Y (Yields.len_ro sl44 rfl) rfl ?_
    refine Y (bn rfl rfl BinR.lss rfl) rfl ?_
    refine AOps.nil ?_
    refine AWP.condT rfl (fun g => ?_) (fun g => ?_)
    ·
     replace g := of_decide_eq_true g
     obtain ⟨x, hx, _⟩ := drop_at (l := a) (i := i) (by omega)
     obtain ⟨y, hy, _⟩ := drop_at (l := b) (i := i) (by omega)
     refine AWP.skip ?_
     refine AWP.seq ?_
     refine AWP.block ?_
     refine AWP.seq ?_
     refine AWP.prune (tm' := [(0, _), (1, _), (5, _), (14, _)]) ⟨rfl, rfl, rfl, rfl, trivial⟩ ?_
     refine AWP.drawn mixed rfl rfl ?_
     refine D (tm' := [(0, _)]) ⟨rfl, trivial⟩ (DStep.yields (mv rfl)) rfl ?_
     refine D (tm' := [(5, _)]) ⟨rfl, trivial⟩ (DStep.yields (mv rfl)) rfl ?_
     refine D (tm' := [(17, _), (18, _)]) ⟨rfl, rfl, trivial⟩ (DStep.yields (Yields.idx_roN sl44 rfl rfl rfl rfl (by omega))) rfl ?_
     refine D (tm' := [(19, _)]) ⟨rfl, trivial⟩ (DStep.yields (Yields.load_rop_one kd9 rfl (strs_at hx) rfl)) rfl ?_
     refine D (tm' := [(1, _)]) ⟨rfl, trivial⟩ (DStep.yields (mv rfl)) rfl ?_
     refine D (tm' := [(5, _)]) ⟨rfl, trivial⟩ (DStep.yields (mv rfl)) rfl ?_
     refine D (tm' := [(21, _), (22, _)]) ⟨rfl, rfl, trivial⟩ (DStep.yields (Yields.idx_roN sl44 rfl rfl rfl rfl (by omega))) rfl ?_
     refine D (tm' := [(23, _)]) ⟨rfl, trivial⟩ (DStep.yields (Yields.load_rop_one kd9 rfl (strs_at hy) rfl)) rfl ?_
     refine D (tm' := [(20, _), (24, _)]) ⟨rfl, rfl, trivial⟩ (DStep.yields (bn rfl rfl BinR.sneq rfl)) rfl ?_
     refine DOps.nil ?_
     refine AWP.condT rfl (fun g2 => ?_) (fun g2 => ?_)
     ·
      replace g2 := of_decide_eq_true g2
      refine AWP.seq ?_
      refine AWP.region ?_
      refine Y (ass rfl) rfl ?_
      refine AOps.nil ?_
      refine AWP.ret ⟨.inl rfl, ?_⟩
      exact RetIs.oneV rfl rfl (by (rw [decide_eq_false (by rintro rfl; rw [hx] at hy; exact g2 (Option.some.inj hy))]) <;> rfl)
     ·
      replace g2 := Decidable.of_not_not (of_decide_eq_false g2)
      refine AWP.skip ?_
      refine AWP.region ?_
      refine Y (mv rfl) rfl ?_
      refine Y (bn rfl rfl (BinR.addI (by omega) (by omega)) rfl) rfl ?_
      refine Y (ass rfl) rfl ?_
      refine AOps.nil ?_
      refine ⟨i + 1, ?_, ?_, ?_⟩
      ·
       show a.length - (i + 1) < a.length - i
       omega
      ·
       show (i + 1) ≤ a.length ∧ ∀ j, j < (i + 1) → a[j]? = b[j]?
       refine ⟨by omega, fun j hj => ?_⟩
       by_cases e : j = i
       · subst e; rw [hx, hy, g2]
       · exact hp j (by omega)
      · exact Leads.rows 0 ⟨rfl, rfl, rfl, trivial⟩
    ·
     replace g := of_decide_eq_false g
     refine AWP.exit ?_
     refine AWP.seq ?_
     refine AWP.region ?_
     refine Y (ass rfl) rfl ?_
     refine AOps.nil ?_
     refine AWP.ret ⟨.inl rfl, ?_⟩
     exact RetIs.oneV rfl rfl (by (rw [decide_eq_true (by refine List.ext_getElem? fun j => ?_; by_cases hj : j < i; exact hp j hj; rw [List.getElem?_eq_none (by omega), List.getElem?_eq_none (by omega)])]) <;> rfl)

def markStrs : List ByteArray → Nat → List ByteArray
  | [], _ => []
  | _ :: l, k => markTxt k :: markStrs l (k + 1)
theorem markStrs_length : ∀ (l : List ByteArray) (k : Nat), (markStrs l k).length = l.length
  | [], _ => rfl
  | _ :: l, k => by simp [markStrs, markStrs_length l]
theorem markStrs_get : ∀ (l : List ByteArray) (k i : Nat), i < l.length → (markStrs l k)[i]? = some (markTxt (k + i))
  | [], _, _, h => by simp at h
  | _ :: l, k, 0, h => by simp [markStrs]
  | _ :: l, k, i + 1, h => by
    simp only [markStrs, List.getElem?_cons_succ]
    rw [markStrs_get l (k + 1) i (by simpa using h)]
    congr 2; omega
theorem markStrs_set {l : List ByteArray} {k i : Nat} (h : i < l.length) : (strs ((markStrs l k).take i ++ l.drop i)).set i (str (markTxt (k + i))) = strs ((markStrs l k).take (i + 1) ++ l.drop (i + 1)) := by
  have h1 : ((markStrs l k).take i).length = i := by rw [List.length_take, markStrs_length]; omega
  have hd : l.drop i = l[i] :: l.drop (i + 1) := List.drop_eq_getElem_cons h
  have h2 : (markStrs l k).take (i + 1) = (markStrs l k).take i ++ [markTxt (k + i)] := by
    rw [List.take_add_one, markStrs_get l k i h]; rfl
  rw [h2, hd]
  have h3 : (strs ((markStrs l k).take i)).length = i := by rw [strs_length, h1]
  simp only [strs, List.map_append, List.map_cons, List.append_assoc, List.cons_append, List.nil_append] at h3 ⊢
  rw [List.set_append_right _ _ (by omega), h3]
  simp
end Go.Proofs.YtccdgppplkfjfaaDoor
