/- What an expression calls. -/
import Derived.Test.YtccdgppplkfjfaaGreatStrs
namespace Go.Proofs.YtccdgppplkfjfaaGreat
open Go Go.Ax Go.Proofs
set_option linter.unusedVariables false
set_option linter.unusedSimpArgs false
set_option maxRecDepth 20000

def ownS (l : List ByteArray) : AV → Hp → Prop := fun r hp' => ∃ B : Option Nat, r = .loc B 0 l.length l.length 1 ∧ hp' = [(B, ⟨1, strs l⟩)]
theorem ownS.fz {l : List ByteArray} {r : AV} {hp' : Hp} (h : ownS l r hp') : Fz hp' r (.ro 1 (strs l) [] false) := by
  obtain ⟨B, rfl, rfl⟩ := h
  exact (Bor.loc (j := 0) rfl (by simp [strs]) (by rw [List.take_of_length_le (by simp [strs])]; exact viewL_strs l)).fz
theorem ownS.free {l : List ByteArray} {r : AV} {hp' : Hp} (h : ownS l r hp') : Free r ∧ ∀ B row, (B, row) ∈ hp' → FreeL row.xs := by
  obtain ⟨B, rfl, rfl⟩ := h
  refine ⟨fun w ok ok' cs F hr => ?_, fun B' row hm => ?_⟩
  · cases B <;> simpa only [Rep] using hr
  · simp at hm; obtain ⟨rfl, rfl⟩ := hm; exact freeL_strs l
def joinL : List ByteArray → List ByteArray → List ByteArray
  | a, [] => a
  | a, n :: b => joinL (if memB a n = true then a else a ++ [n]) b
theorem joinL_length : ∀ (b a : List ByteArray), (joinL a b).length ≤ a.length + b.length
  | [], a => by simp [joinL]
  | n :: b, a => by
    rw [joinL]
    have := joinL_length b (if memB a n = true then a else a ++ [n])
    split at this <;> rename_i h
    · rw [if_pos h]; simp; omega
    · rw [if_neg h]; simp at this ⊢; omega
mutual
def callsT : Tr → List ByteArray
  | .mk k _ t ks => callsK ks (if k = 4 then [t] else [])
def callsK : List Tr → List ByteArray → List ByteArray
  | [], out => out
  | k :: ks, out => callsK ks (joinL out (callsT k))
end
mutual
theorem callsT_length : ∀ k : Tr, ((callsT k).length : Int) ≤ sizeT k
  | .mk k n t ks => by
    rw [callsT, sizeT]
    have := callsK_length ks (if k = 4 then [t] else [])
    split at this <;> rename_i h
    · rw [if_pos h]; simp at this; omega
    · rw [if_neg h]; simp at this; omega
theorem callsK_length : ∀ (ks : List Tr) (out : List ByteArray), ((callsK ks out).length : Int) ≤ out.length + sizeTs ks
  | [], out => by rw [callsK, sizeTs]; omega
  | k :: ks, out => by
    rw [callsK, sizeTs]
    have h1 := callsK_length ks (joinL out (callsT k))
    have h2 := joinL_length (callsT k) out
    have h3 := callsT_length k
    omega
end
theorem len_app (l : List ByteArray) (t : ByteArray) : l.length + [str t].length = (l ++ [t]).length := by simp
theorem drop_at' {α : Type} {l : List α} {i : Nat} {x : α} (h : l[i]? = some x) : l.drop i = x :: l.drop (i + 1) := by
  obtain ⟨hi, e⟩ := List.getElem?_eq_some_iff.1 h
  rw [List.drop_eq_getElem_cons hi, e]

theorem joined_AH (a b : List ByteArray) (B : Option Nat) (hl : a.length + b.length ≤ 4000000) : FnH 63 [(B, ⟨1, strs a⟩)] [.loc B 0 a.length a.length 1, .ro 1 (strs b) [] false] (ownS (joinL a b)) := by
  have hlb := strs_length b
  refine AH.intro Tryz.func63 nm63 rfl rfl rfl fun w0 ok0 own0 => ?_
  refine AWP.seq ?_
  refine AWP.region ?_
  refine Y (ass rfl) rfl ?_
  refine AOps.nil ?_
  refine AWP.seq ?_
  refine AWP.seq ?_
  refine AWP.region ?_
  refine Y (ass rfl) rfl ?_
  refine AOps.nil ?_
  refine AWP.block ?_
  refine AWP.loopV (α := Option Nat × List ByteArray × Nat) (fun pp : Option Nat × List ByteArray × Nat => match pp with | (B, l, i) => ⟨[(0, .loc B 0 l.length l.length 1), (1, .ro 1 (strs b) [] false), (5, int i)], [(B, ⟨1, strs l⟩)]⟩) (fun pp : Option Nat × List ByteArray × Nat => match pp with | (B, l, i) => i ≤ b.length ∧ l.length ≤ a.length + i ∧ joinL l (b.drop i) = joinL a b) (fun pp : Option Nat × List ByteArray × Nat => match pp with | (B, l, i) => b.length - i) ((B, a, 0)) ?_ ?_ ?_
  · exact Leads.keepR (KeepR.cons 0 rfl KeepR.nil) ⟨rfl, rfl, rfl, trivial⟩
  ·
   show 0 ≤ b.length ∧ a.length ≤ a.length + 0 ∧ joinL a (b.drop 0) = joinL a b
   exact ⟨Nat.zero_le _, by omega, by rw [List.drop_zero]⟩
  ·
   rintro ⟨B, l, i⟩ hinv
   replace hinv : i ≤ b.length ∧ l.length ≤ a.length + i ∧ joinL l (b.drop i) = joinL a b := hinv
   show AWP _ _ _ _ ⟨[(0, .loc B 0 l.length l.length 1), (1, .ro 1 (strs b) [] false), (5, int i)], [(B, ⟨1, strs l⟩)]⟩
   refine AWP.seq ?_
   refine AWP.seq ?_
   refine AWP.region ?_
   obtain ⟨hi, hl1, hp⟩ := hinv
   refine Y (mv rfl) rfl ?_
   refine Y (mv rfl) rfl ?_
   refine Y (Yields.len_ro sl52 rfl) rfl ?_
   refine Y (bn rfl rfl BinR.lss rfl) rfl ?_
   refine AOps.nil ?_
   refine AWP.condT rfl (fun g => ?_) (fun g => ?_)
   ·
    replace g := of_decide_eq_true g
    obtain ⟨x, hx, hdx⟩ := drop_at (l := b) (i := i) (by omega)
    rw [hdx, joinL] at hp
    refine AWP.skip ?_
    refine AWP.seq ?_
    refine AWP.block ?_
    refine AWP.seq ?_
    refine AWP.region ?_
    refine Y (mv rfl) rfl ?_
    refine Y (mv rfl) rfl ?_
    refine Y (mv rfl) rfl ?_
    refine Y (Yields.idx_roN sl52 rfl rfl rfl rfl (by omega)) rfl ?_
    refine Y (Yields.load_rop_one kd9 rfl (strs_at hx) rfl) rfl ?_
    refine AOps.call (inTexts_AF l [] false x (by omega)) rfl rfl ⟨bor_strs (j := 0) rfl rfl, Bor.refl rfl, trivial⟩ rfl Free.val ?_
    refine Y (Yields.not rfl) rfl ?_
    refine AOps.nil ?_
    refine AWP.condT rfl (fun g3 => ?_) (fun g3 => ?_)
    ·
     skip
     refine AWP.region ?_
     have g3' : ¬ memB l x = true := by simpa using g3
     rw [if_neg g3'] at hp
     refine Y (mv rfl) rfl ?_
     refine Y (mv rfl) rfl ?_
     refine Y (mv rfl) rfl ?_
     refine Y (Yields.idx_roN sl52 rfl rfl rfl rfl (by omega)) rfl ?_
     refine Y (Yields.load_rop_one kd9 rfl (strs_at hx) rfl) rfl ?_
     refine AOps.buildSlice sl52 z9 rfl rfl rfl rfl rfl fun bs => ?_
     refine AOps.appendE (j := 1) sl52 z9 rfl rfl rfl rfl rfl (by simp [strs]) rfl (src_row (j2 := 0) rfl rfl rfl) (len_app l x) (strs_app l x) (by simp; omega) (by simp; omega) fun Bn => ?_
     refine Y (ass rfl) rfl ?_
     refine AOps.nil ?_
     refine AWP.region ?_
     refine Y (mv rfl) rfl ?_
     refine Y (bn rfl rfl (BinR.addI (by omega) (by omega)) rfl) rfl ?_
     refine Y (ass rfl) rfl ?_
     refine AOps.nil ?_
     refine ⟨(Bn, l ++ [x], i + 1), ?_, ?_, ?_⟩
     ·
      show b.length - (i + 1) < b.length - i
      omega
     ·
      show (i + 1) ≤ b.length ∧ (l ++ [x]).length ≤ a.length + (i + 1) ∧ joinL (l ++ [x]) (b.drop (i + 1)) = joinL a b
      exact ⟨by omega, by simp; omega, hp⟩
     · exact Leads.keepR (KeepR.cons 1 rfl KeepR.nil) ⟨rfl, rfl, rfl, trivial⟩
    ·
     skip
     have g3' : memB l x = true := by simpa using g3
     rw [if_pos g3'] at hp
     refine AWP.skip ?_
     refine AWP.region ?_
     refine Y (mv rfl) rfl ?_
     refine Y (bn rfl rfl (BinR.addI (by omega) (by omega)) rfl) rfl ?_
     refine Y (ass rfl) rfl ?_
     refine AOps.nil ?_
     refine ⟨(B, l, i + 1), ?_, ?_, ?_⟩
     ·
      show b.length - (i + 1) < b.length - i
      omega
     ·
      show (i + 1) ≤ b.length ∧ l.length ≤ a.length + (i + 1) ∧ joinL l (b.drop (i + 1)) = joinL a b
      exact ⟨by omega, by omega, hp⟩
     · exact Leads.keepR (KeepR.cons 0 rfl KeepR.nil) ⟨rfl, rfl, rfl, trivial⟩
   ·
    replace g := of_decide_eq_false g
    rw [List.drop_eq_nil_of_le (by omega), joinL] at hp
    refine AWP.exit ?_
    refine AWP.seq ?_
    refine AWP.region ?_
    refine Y (mv rfl) rfl ?_
    refine Y (ass rfl) rfl ?_
    refine AOps.nil ?_
    refine AWP.ret ⟨.inl rfl, ?_⟩
    exact RetH.of (rs := [.tmp 4]) (vs := [_]) rfl ⟨rfl, trivial⟩ (KeepR.cons 0 rfl KeepR.nil) (⟨B, by rw [hp]; rfl, by rw [hp]⟩)
def callsE (k : Tr) : List ByteArray := if okE k = true then callsT k else []
end Go.Proofs.YtccdgppplkfjfaaGreat
