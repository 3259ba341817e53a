/- Trees: what a value or an expression is, and how it lies in memory. No program here. -/
import Derived.Test.YtccdgppplkfjfaaDoorAx
namespace Go.Proofs.YtccdgppplkfjfaaDoor
open Go Go.Ax
set_option linter.unusedVariables false
set_option linter.unusedSimpArgs false

inductive Tr where
  | mk (kind num : Int) (text : ByteArray) (kids : List Tr)
namespace Tr
def kind : Tr → Int | .mk k _ _ _ => k
def num : Tr → Int | .mk _ n _ _ => n
def text : Tr → ByteArray | .mk _ _ t _ => t
def kids : Tr → List Tr | .mk _ _ _ k => k
mutual
def av : Tr → AV
  | .mk k n t ks => .agg [.val (.int .i64 k), .val (.int .i64 n), .val (.string t), .ro 4 (avs ks) [] false]
def avs : List Tr → List AV
  | [] => []
  | k :: ks => av k :: avs ks
end
mutual
def bnd (N : Nat) : Tr → Prop
  | .mk k n t ks => t.size ≤ N ∧ ks.length ≤ N ∧ bnds N ks
def bnds (N : Nat) : List Tr → Prop
  | [] => True
  | k :: ks => bnd N k ∧ bnds N ks
end
theorem avs_length : ∀ l : List Tr, (avs l).length = l.length
  | [] => rfl
  | k :: ks => by simp [avs, avs_length ks]
theorem avs_get : ∀ (l : List Tr) (i : Nat), (avs l)[i]? = (l[i]?).map av
  | [], i => by simp [avs]
  | k :: ks, 0 => by simp [avs]
  | k :: ks, i + 1 => by simp [avs, avs_get ks i]
theorem avs_at {l : List Tr} {i : Nat} {k : Tr} (h : l[i]? = some k) : (avs l)[i]? = some k.av := by rw [avs_get, h]; rfl
theorem av_agg (k : Tr) : isAggV k.av = true := by cases k; rfl
theorem bnds_get {N : Nat} : ∀ {l : List Tr} {i : Nat} {k : Tr}, bnds N l → l[i]? = some k → bnd N k
  | [], i, k, _, h => by simp at h
  | a :: l, 0, k, hb, h => by simp at h; subst h; exact hb.1
  | a :: l, i + 1, k, hb, h => bnds_get hb.2 (by simpa using h)
theorem bnds_mem {N : Nat} {l : List Tr} (h : bnds N l) : ∀ k ∈ l, bnd N k := fun k hk => by
  obtain ⟨i, hi⟩ := List.getElem?_of_mem hk
  exact bnds_get h hi
mutual
theorem ind_one {p : Tr → Prop} (h : ∀ kd nm t ks, (∀ k ∈ ks, p k) → p (.mk kd nm t ks)) : ∀ k, p k
  | .mk kd nm t ks => h kd nm t ks (ind_all h ks)
theorem ind_all {p : Tr → Prop} (h : ∀ kd nm t ks, (∀ k ∈ ks, p k) → p (.mk kd nm t ks)) : ∀ ks : List Tr, ∀ k ∈ ks, p k
  | [], k, hk => by simp at hk
  | a :: l, k, hk => by
    rcases List.mem_cons.1 hk with he | hk
    · exact he ▸ ind_one h a
    · exact ind_all h l k hk
end
theorem ind {motive : Tr → Prop} (mk : ∀ kd nm t ks, (∀ k ∈ ks, motive k) → motive (.mk kd nm t ks)) (k : Tr) : motive k := ind_one mk k
def spareB : ByteArray := ⟨#[126, 115, 112, 97, 114, 101, 126]⟩
def fillT : Tr := .mk (-7000000000000000101) (-7000000000000000101) spareB []
def room (n : Nat) : Nat := if n % 6 = 5 then 0 else if n % 3 = 0 then 1 else n
theorem room_le (n : Nat) : room n ≤ n + 1 := by unfold room; split <;> (try split) <;> omega
def spare (b : Bool) (n : Nat) : List AV := if b && decide (n = 0) then [] else List.replicate (room n) fillT.av
mutual
def avR (b : Bool) : Tr → AV
  | .mk k n t ks => .agg [.val (.int .i64 k), .val (.int .i64 n), .val (.string t), .ro 4 (avRs b ks) (spare b ks.length) false]
def avRs (b : Bool) : List Tr → List AV
  | [] => []
  | k :: ks => avR b k :: avRs b ks
end
theorem avRs_length (b : Bool) : ∀ l : List Tr, (avRs b l).length = l.length
  | [] => rfl
  | k :: ks => by simp [avRs, avRs_length b ks]
theorem avRs_get (b : Bool) : ∀ (l : List Tr) (i : Nat), (avRs b l)[i]? = (l[i]?).map (avR b)
  | [], i => by simp [avRs]
  | k :: ks, 0 => by simp [avRs]
  | k :: ks, i + 1 => by simp [avRs, avRs_get b ks i]
theorem avRs_at {b : Bool} {l : List Tr} {i : Nat} {k : Tr} (h : l[i]? = some k) : (avRs b l)[i]? = some (k.avR b) := by rw [avRs_get, h]; rfl
theorem avR_agg (b : Bool) (k : Tr) : isAggV (k.avR b) = true := by cases k; rfl
theorem avR_cell (b : Bool) (k : Tr) : cellV (k.avR b) = true := by cases k; rfl
theorem avR_width (b : Bool) (k : Tr) : width (k.avR b) = 4 := by cases k; rfl
theorem av_cell (k : Tr) : cellV k.av = true := by cases k; rfl
theorem av_width (k : Tr) : width k.av = 4 := by cases k; rfl
mutual
theorem plain_av : ∀ k : Tr, plainV k.av = true
  | .mk k n t ks => by simp [av, plainV, plainL]
end
theorem plain_avR (b : Bool) : ∀ k : Tr, plainV (k.avR b) = true
  | .mk k n t ks => by simp [avR, plainV, plainL]
theorem plain_avs : ∀ l : List Tr, plainL (avs l) = true
  | [] => rfl
  | k :: l => by simp [avs, plainL, plain_av k, plain_avs l]
theorem plain_avRs (b : Bool) : ∀ l : List Tr, plainL (avRs b l) = true
  | [] => rfl
  | k :: l => by simp [avRs, plainL, plain_avR b k, plain_avRs b l]
theorem plain_rep {v : AV} (h : plainV v = true) : ∀ n, plainL (List.replicate n v) = true
  | 0 => rfl
  | n + 1 => by simp [List.replicate_succ, plainL, h, plain_rep h n]
theorem avs_replicate (k : Tr) : ∀ n, List.replicate n k.av = avs (List.replicate n k)
  | 0 => rfl
  | n + 1 => by simp [List.replicate_succ, avs, avs_replicate k n]
theorem spare_plain (b : Bool) (n : Nat) : plainL (spare b n) = true := by
  unfold spare
  split
  · rfl
  · exact plain_rep (plain_av fillT) _
theorem avRs_take_succ (b : Bool) {l : List Tr} {i : Nat} {k : Tr} (h : l[i]? = some k) : avRs b (l.take (i + 1)) = avRs b (l.take i) ++ [k.avR b] := by
  induction l generalizing i with
  | nil => simp at h
  | cons a l ih =>
    cases i with
    | zero => simp at h; subst h; simp [avRs]
    | succ i => simp only [List.take_succ_cons, avRs, List.cons_append]; rw [ih (by simpa using h)]
mutual
theorem wk_avR (b : Bool) : ∀ k : Tr, Wk (k.avR b) k.av
  | .mk k n t ks => Wk.agg ⟨Wk.refl _, Wk.refl _, Wk.refl _, Wk.ro (wk_avRs b ks), trivial⟩
theorem wk_avRs (b : Bool) : ∀ l : List Tr, WkL (avRs b l) (avs l)
  | [] => trivial
  | k :: l => ⟨wk_avR b k, wk_avRs b l⟩
end
end Tr
theorem set_step {A : List AV} {z v : AV} {m i : Nat} (hA : A.length = i) (hm : 0 < m) : (A ++ List.replicate m z).set (0 + i) v = (A ++ [v]) ++ List.replicate (m - 1) z := by
  subst hA
  cases m with
  | zero => omega
  | succ m => simp [List.replicate_succ, List.set_append]
theorem get_step {A : List AV} {z : AV} {m i : Nat} (hA : A.length = i) (hm : 0 < m) : (A ++ List.replicate m z)[0 + i]? = some z := by
  subst hA
  cases m with
  | zero => omega
  | succ m => simp [List.replicate_succ]
theorem drop_at {α : Type} {l : List α} {i : Nat} (h : i < l.length) : ∃ k, l[i]? = some k ∧ l.drop i = k :: l.drop (i + 1) :=
  ⟨l[i], List.getElem?_eq_getElem h, List.drop_eq_getElem_cons h⟩
end Go.Proofs.YtccdgppplkfjfaaDoor
