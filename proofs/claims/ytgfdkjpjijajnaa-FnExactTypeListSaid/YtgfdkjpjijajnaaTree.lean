/- Trees: what a value or an expression is, and how it lies in memory. No program here. -/
import Derived.Test.YtgfdkjpjijajnaaAx
namespace Go.Proofs.Ytgfdkjpjijajnaa
open Go Go.Ax
set_option linter.unusedVariables false

/-- A tree: a kind, a number, a text, parts. -/
inductive Tr where
  | mk (kind num : Int) (text : ByteArray) (kids : List Tr)
namespace Tr
def kind : Tr → Int | .mk k _ _ _ => k
def num : Tr → Int | .mk _ n _ _ => n
def text : Tr → ByteArray | .mk _ _ t _ => t
def kids : Tr → List Tr | .mk _ _ _ k => k
mutual
/-- A tree that is only read. -/
def av : Tr → AV
  | .mk k n t ks => .agg [.val (.int .i64 k), .val (.int .i64 n), .val (.string t), .ro 4 (avs ks) [] false]
def avs : List Tr → List AV
  | [] => []
  | k :: ks => av k :: avs ks
end
mutual
/-- All lengths are those of memory. -/
def bnd (N : Nat) : Tr → Prop
  | .mk k n t ks => t.size ≤ N ∧ ks.length ≤ N ∧ bnds N ks
def bnds (N : Nat) : List Tr → Prop
  | [] => True
  | k :: ks => bnd N k ∧ bnds N ks
end
theorem avs_length : ∀ l : List Tr, (avs l).length = l.length
  | [] => rfl
  | k :: ks => by simp [avs, avs_length ks]
theorem avs_get : ∀ (l : List Tr) (i : Nat), (avs l)[i]? = (l[i]?).map av
  | [], i => by simp [avs]
  | k :: ks, 0 => by simp [avs]
  | k :: ks, i + 1 => by simp [avs, avs_get ks i]
theorem avs_at {l : List Tr} {i : Nat} {k : Tr} (h : l[i]? = some k) : (avs l)[i]? = some k.av := by rw [avs_get, h]; rfl
theorem av_agg (k : Tr) : isAggV k.av = true := by cases k; rfl
theorem bnds_get {N : Nat} : ∀ {l : List Tr} {i : Nat} {k : Tr}, bnds N l → l[i]? = some k → bnd N k
  | [], i, k, _, h => by simp at h
  | a :: l, 0, k, hb, h => by simp at h; subst h; exact hb.1
  | a :: l, i + 1, k, hb, h => bnds_get hb.2 (by simpa using h)
theorem bnds_mem {N : Nat} {l : List Tr} (h : bnds N l) : ∀ k ∈ l, bnd N k := fun k hk => by
  obtain ⟨i, hi⟩ := List.getElem?_of_mem hk
  exact bnds_get h hi
mutual
theorem ind_one {p : Tr → Prop} (h : ∀ kd nm t ks, (∀ k ∈ ks, p k) → p (.mk kd nm t ks)) : ∀ k, p k
  | .mk kd nm t ks => h kd nm t ks (ind_all h ks)
theorem ind_all {p : Tr → Prop} (h : ∀ kd nm t ks, (∀ k ∈ ks, p k) → p (.mk kd nm t ks)) : ∀ ks : List Tr, ∀ k ∈ ks, p k
  | [], k, hk => by simp at hk
  | a :: l, k, hk => by
    rcases List.mem_cons.1 hk with he | hk
    · exact he ▸ ind_one h a
    · exact ind_all h l k hk
end
/-- Induction over a tree: what holds of all parts holds of the whole. -/
theorem ind {motive : Tr → Prop} (mk : ∀ kd nm t ks, (∀ k ∈ ks, motive k) → motive (.mk kd nm t ks)) (k : Tr) : motive k := ind_one mk k
end Tr
/-- The element at a place, and what is left from there on. -/
theorem drop_at {α : Type} {l : List α} {i : Nat} (h : i < l.length) : ∃ k, l[i]? = some k ∧ l.drop i = k :: l.drop (i + 1) :=
  ⟨l[i], List.getElem?_eq_getElem h, List.drop_eq_getElem_cons h⟩
end Go.Proofs.Ytgfdkjpjijajnaa
