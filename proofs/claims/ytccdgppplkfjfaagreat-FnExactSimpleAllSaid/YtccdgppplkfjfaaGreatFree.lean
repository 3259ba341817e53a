/- The free names of an expression. -/
import Derived.Test.YtccdgppplkfjfaaGreatPathe
namespace Go.Proofs.YtccdgppplkfjfaaGreat
open Go Go.Ax Go.Proofs
set_option linter.unusedVariables false
set_option linter.unusedSimpArgs false
set_option maxRecDepth 20000
def withoutL (l : List ByteArray) (t : ByteArray) : List ByteArray := l.filter fun x => decide (x ≠ t)
def withoutI (b : Bool) (i : Nat) (l : List ByteArray) (t : ByteArray) : List ByteArray := if b = true ∧ i = 1 then withoutL l t else l
mutual
def freeT : Tr → List ByteArray
  | .mk k _ t ks => if k = 3 then [t] else freeK ks (bindsB k) t 0 []
def freeK : List Tr → Bool → ByteArray → Nat → List ByteArray → List ByteArray
  | [], _, _, _, out => out
  | k :: ks, b, t, i, out => freeK ks b t (i + 1) (joinL out (withoutI b i (freeT k) t))
end
mutual
def freesT : Tr → List ByteArray → List ByteArray → List ByteArray
  | .mk k _ t ks, bd, out => freesK ks (bindsB k) t 0 bd (if k = 3 ∧ memB bd t = false ∧ memB out t = false then out ++ [t] else out)
def freesK : List Tr → Bool → ByteArray → Nat → List ByteArray → List ByteArray → List ByteArray
  | [], _, _, _, _, out => out
  | k :: ks, b, t, i, bd, out => freesK ks b t (i + 1) bd (freesT k (innerL b i bd t) out)
end
theorem withoutL_length (l : List ByteArray) (t : ByteArray) : (withoutL l t).length ≤ l.length := List.length_filter_le _ _
theorem withoutI_length (b : Bool) (i : Nat) (l : List ByteArray) (t : ByteArray) : (withoutI b i l t).length ≤ l.length := by
  unfold withoutI
  split
  · exact withoutL_length l t
  · exact Nat.le_refl _
mutual
theorem freeT_length : ∀ k : Tr, ((freeT k).length : Int) ≤ sizeT k
  | .mk k n t ks => by
    rw [freeT, sizeT]
    have := freeK_length ks (bindsB k) t 0 []
    have h0 := sizeTs_pos ks
    split
    · simp; omega
    · simp at this ⊢; omega
theorem freeK_length : ∀ (ks : List Tr) (b : Bool) (t : ByteArray) (i : Nat) (out : List ByteArray), ((freeK ks b t i out).length : Int) ≤ out.length + sizeTs ks
  | [], b, t, i, out => by rw [freeK, sizeTs]; omega
  | k :: ks, b, t, i, out => by
    rw [freeK, sizeTs]
    have h1 := freeK_length ks b t (i + 1) (joinL out (withoutI b i (freeT k) t))
    have h2 := joinL_length (withoutI b i (freeT k) t) out
    have h3 := freeT_length k
    have h4 := withoutI_length b i (freeT k) t
    omega
end
theorem memB_iff {l : List ByteArray} {x : ByteArray} : memB l x = true ↔ x ∈ l := by simp [memB]
theorem memB_no {l : List ByteArray} {x : ByteArray} : memB l x = false ↔ x ∉ l := by rw [← memB_iff]; simp
theorem joinL_nil (a : List ByteArray) : joinL a [] = a := rfl
theorem joinL_app : ∀ (b c a : List ByteArray), joinL a (b ++ c) = joinL (joinL a b) c
  | [], c, a => rfl
  | n :: b, c, a => by rw [List.cons_append, joinL, joinL, joinL_app b c]
theorem joinL_mem {x : ByteArray} : ∀ (b a : List ByteArray), x ∈ joinL a b ↔ x ∈ a ∨ x ∈ b
  | [], a => by simp [joinL]
  | n :: b, a => by
    rw [joinL, joinL_mem b]
    split
    · rename_i h
      have h := memB_iff.1 h
      constructor
      · rintro (q | q); exact .inl q; exact .inr (List.mem_cons_of_mem _ q)
      · rintro (q | q)
        · exact .inl q
        · rcases List.mem_cons.1 q with rfl | q
          · exact .inl h
          · exact .inr q
    · simp [or_assoc]
theorem joinL_one (a : List ByteArray) (n : ByteArray) : joinL a [n] = if memB a n = true then a else a ++ [n] := by rw [joinL, joinL]
theorem joinL_assoc (out : List ByteArray) : ∀ (l a : List ByteArray), joinL out (joinL a l) = joinL (joinL out a) l
  | [], a => rfl
  | n :: l, a => by
    rw [joinL, joinL_assoc out l, joinL]
    congr 1
    by_cases h : memB a n = true
    · rw [if_pos h, if_pos (memB_iff.2 ((joinL_mem a out).2 (.inr (memB_iff.1 h))))]
    · rw [if_neg h, joinL_app, joinL_one]
theorem joinL_filter (q : ByteArray → Bool) : ∀ (l a : List ByteArray), (joinL a l).filter q = joinL (a.filter q) (l.filter q)
  | [], a => rfl
  | n :: l, a => by
    rw [joinL, joinL_filter q l]
    by_cases hq : q n = true
    · rw [List.filter_cons_of_pos hq, joinL]
      congr 1
      by_cases h : memB a n = true
      · rw [if_pos h, if_pos (memB_iff.2 (List.mem_filter.2 ⟨memB_iff.1 h, hq⟩))]
      · rw [if_neg h, if_neg (fun h2 => h (memB_iff.2 (List.mem_filter.1 (memB_iff.1 h2)).1)), List.filter_append, List.filter_cons_of_pos hq]; rfl
    · rw [List.filter_cons_of_neg hq]
      congr 1
      split
      · rfl
      · rw [List.filter_append, List.filter_cons_of_neg hq]; simp
def outB (bd : List ByteArray) (x : ByteArray) : Bool := !memB bd x
theorem inner_filter (b : Bool) (i : Nat) (bd l : List ByteArray) (t : ByteArray) : l.filter (outB (innerL b i bd t)) = (withoutI b i l t).filter (outB bd) := by
  unfold innerL withoutI
  split
  · rw [withoutL, List.filter_filter]
    refine List.filter_congr fun x _ => ?_
    simp [outB, memB, Bool.and_comm, eq_comm]
  · rfl
theorem name_kids {nm : Int} {t : ByteArray} {ks : List Tr} {d : Int} (h : validS (.mk 3 nm t ks) d = true) : ks = [] := by
  obtain ⟨_, h2, _⟩ := validS_inv h
  have : inR ks.length 0 0 = true := by simpa [lowV, highV] using h2
  simp [inR] at this
  exact this
mutual
theorem frees_eq : ∀ (k : Tr) (bd out : List ByteArray) (d : Int), validS k d = true → freesT k bd out = joinL out ((freeT k).filter (outB bd))
  | .mk k n t ks, bd, out, d, h => by
    rw [freesT, freeT]
    by_cases hk : k = 3
    · subst hk
      have := name_kids h
      subst this
      rw [freesK, if_pos rfl]
      by_cases h1 : memB bd t = true
      · rw [if_neg (by rw [h1]; simp), List.filter_cons_of_neg (by rw [outB, h1]; simp)]; rfl
      · have h1' : memB bd t = false := by simpa using h1
        rw [List.filter_cons_of_pos (by rw [outB, h1']; rfl), List.filter_nil, joinL_one]
        by_cases h2 : memB out t = true
        · rw [if_neg (by rw [h2]; simp), if_pos h2]
        · have h2' : memB out t = false := by simpa using h2
          rw [if_pos ⟨rfl, h1', h2'⟩, if_neg h2]
    · rw [if_neg (fun e => hk e.1), if_neg hk]
      have := freesK_eq ks (bindsB k) t 0 bd out [] (d - 1) (validS_inv h).2.2
      simpa [joinL] using this
theorem freesK_eq : ∀ (ks : List Tr) (b : Bool) (t : ByteArray) (i : Nat) (bd out acc : List ByteArray) (d : Int), validSs ks d = true → freesK ks b t i bd (joinL out (acc.filter (outB bd))) = joinL out ((freeK ks b t i acc).filter (outB bd))
  | [], b, t, i, bd, out, acc, d, h => by rw [freesK, freeK]
  | k :: ks, b, t, i, bd, out, acc, d, h => by
    rw [validSs, Bool.and_eq_true] at h
    rw [freesK, freeK, frees_eq k _ _ d h.1, inner_filter, ← joinL_assoc, ← joinL_filter]
    exact freesK_eq ks b t (i + 1) bd out _ d h.2
end
mutual
theorem freesT_length : ∀ (k : Tr) (bd out : List ByteArray), ((freesT k bd out).length : Int) ≤ out.length + sizeT k
  | .mk k n t ks, bd, out => by
    rw [freesT, sizeT]
    have := freesK_length ks (bindsB k) t 0 bd (if k = 3 ∧ memB bd t = false ∧ memB out t = false then out ++ [t] else out)
    split at this
    · rename_i h; rw [if_pos h]; simp at this ⊢; omega
    · rename_i h; rw [if_neg h]; omega
theorem freesK_length : ∀ (ks : List Tr) (b : Bool) (t : ByteArray) (i : Nat) (bd out : List ByteArray), ((freesK ks b t i bd out).length : Int) ≤ out.length + sizeTs ks
  | [], b, t, i, bd, out => by rw [freesK, sizeTs]; omega
  | k :: ks, b, t, i, bd, out => by
    rw [freesK, sizeTs]
    have h1 := freesK_length ks b t (i + 1) bd (freesT k (innerL b i bd t) out)
    have h2 := freesT_length k (innerL b i bd t) out
    omega
end
theorem without_AH (a : List ByteArray) (t : ByteArray) (hl : a.length ≤ 4000000) : FnH 62 [] [.ro 1 (strs a) [] false, str t] (ownS (withoutL a t)) := by
  have hla := strs_length a
  refine AH.intro Tryz.func62 nm62 rfl rfl rfl fun w0 ok0 own0 => ?_
  refine AWP.seq ?_
  refine AWP.region ?_
  refine Y (ass rfl) rfl ?_
  refine AOps.nil ?_
  refine AWP.seq ?_
  refine AWP.region ?_
  refine AOps.buildSlice sl52 z9 rfl rfl rfl rfl rfl fun b0 => ?_
  refine Y (ass rfl) rfl ?_
  refine AOps.nil ?_
  refine AWP.seq ?_
  refine AWP.seq ?_
  refine AWP.region ?_
  refine Y (ass rfl) rfl ?_
  refine AOps.nil ?_
  refine AWP.block ?_
  refine AWP.loopV (α := Option Nat × List ByteArray × Nat) (fun pp : Option Nat × List ByteArray × Nat => match pp with | (B, l, i) => ⟨[(0, .ro 1 (strs a) [] false), (1, str t), (5, .loc B 0 l.length l.length 1), (6, int i)], [(B, ⟨1, strs l⟩)]⟩) (fun pp : Option Nat × List ByteArray × Nat => match pp with | (B, l, i) => i ≤ a.length ∧ l.length ≤ i ∧ l ++ withoutL (a.drop i) t = withoutL a t) (fun pp : Option Nat × List ByteArray × Nat => match pp with | (B, l, i) => a.length - i) ((some b0, [], 0)) ?_ ?_ ?_
  · exact Leads.keepR (KeepR.cons 0 rfl KeepR.nil) ⟨rfl, rfl, rfl, rfl, trivial⟩
  ·
   show 0 ≤ a.length ∧ ([]).length ≤ 0 ∧ ([]) ++ withoutL (a.drop 0) t = withoutL a t
   exact ⟨Nat.zero_le _, Nat.zero_le _, by rw [List.drop_zero]; rfl⟩
  ·
   rintro ⟨B, l, i⟩ hinv
   replace hinv : i ≤ a.length ∧ l.length ≤ i ∧ l ++ withoutL (a.drop i) t = withoutL a t := hinv
   show AWP _ _ _ _ ⟨[(0, .ro 1 (strs a) [] false), (1, str t), (5, .loc B 0 l.length l.length 1), (6, int i)], [(B, ⟨1, strs l⟩)]⟩
   refine AWP.seq ?_
   refine AWP.seq ?_
   refine AWP.region ?_
   obtain ⟨hi, hl1, hp⟩ := hinv
   refine Y (mv rfl) rfl ?_
   refine Y (mv rfl) rfl ?_
   refine Y (Yields.len_ro sl52 rfl) rfl ?_
   refine Y (bn rfl rfl BinR.lss rfl) rfl ?_
   refine AOps.nil ?_
   refine AWP.condT rfl (fun g => ?_) (fun g => ?_)
   ·
    replace g := of_decide_eq_true g
    obtain ⟨x, hx, hdx⟩ := drop_at (l := a) (i := i) (by omega)
    rw [hdx, withoutL] at hp
    refine AWP.skip ?_
    refine AWP.seq ?_
    refine AWP.block ?_
    refine AWP.seq ?_
    refine AWP.region ?_
    refine Y (mv rfl) rfl ?_
    refine Y (mv rfl) rfl ?_
    refine Y (Yields.idx_roN sl52 rfl rfl rfl rfl (by omega)) rfl ?_
    refine Y (Yields.load_rop_one kd9 rfl (strs_at hx) rfl) rfl ?_
    refine Y (mv rfl) rfl ?_
    refine Y (bn rfl rfl BinR.sneq rfl) rfl ?_
    refine AOps.nil ?_
    refine AWP.condT rfl (fun g3 => ?_) (fun g3 => ?_)
    ·
     replace g3 := of_decide_eq_true g3
     refine AWP.region ?_
     rw [List.filter_cons_of_pos (by simpa using g3)] at hp
     refine Y (mv rfl) rfl ?_
     refine Y (mv rfl) rfl ?_
     refine Y (mv rfl) rfl ?_
     refine Y (Yields.idx_roN sl52 rfl rfl rfl rfl (by omega)) rfl ?_
     refine Y (Yields.load_rop_one kd9 rfl (strs_at hx) rfl) rfl ?_
     refine AOps.buildSlice sl52 z9 rfl rfl rfl rfl rfl fun bs => ?_
     refine AOps.appendE (j := 1) sl52 z9 rfl rfl rfl rfl rfl (by simp [strs]) rfl (src_row (j2 := 0) rfl rfl rfl) (len_app l x) (strs_app l x) (by simp; omega) (by simp; omega) fun Bn => ?_
     refine Y (ass rfl) rfl ?_
     refine AOps.nil ?_
     refine AWP.region ?_
     refine Y (mv rfl) rfl ?_
     refine Y (bn rfl rfl (BinR.addI (by omega) (by omega)) rfl) rfl ?_
     refine Y (ass rfl) rfl ?_
     refine AOps.nil ?_
     refine ⟨(Bn, l ++ [x], i + 1), ?_, ?_, ?_⟩
     ·
      show a.length - (i + 1) < a.length - i
      omega
     ·
      show (i + 1) ≤ a.length ∧ (l ++ [x]).length ≤ (i + 1) ∧ (l ++ [x]) ++ withoutL (a.drop (i + 1)) t = withoutL a t
      exact ⟨by omega, by simp; omega, by rw [List.append_assoc]; exact hp⟩
     · exact Leads.keepR (KeepR.cons 1 rfl KeepR.nil) ⟨rfl, rfl, rfl, rfl, trivial⟩
    ·
     replace g3 := Decidable.of_not_not (of_decide_eq_false g3)
     rw [List.filter_cons_of_neg (by simpa using g3)] at hp
     refine AWP.skip ?_
     refine AWP.region ?_
     refine Y (mv rfl) rfl ?_
     refine Y (bn rfl rfl (BinR.addI (by omega) (by omega)) rfl) rfl ?_
     refine Y (ass rfl) rfl ?_
     refine AOps.nil ?_
     refine ⟨(B, l, i + 1), ?_, ?_, ?_⟩
     ·
      show a.length - (i + 1) < a.length - i
      omega
     ·
      show (i + 1) ≤ a.length ∧ l.length ≤ (i + 1) ∧ l ++ withoutL (a.drop (i + 1)) t = withoutL a t
      exact ⟨by omega, by omega, hp⟩
     · exact Leads.keepR (KeepR.cons 0 rfl KeepR.nil) ⟨rfl, rfl, rfl, rfl, trivial⟩
   ·
    replace g := of_decide_eq_false g
    rw [List.drop_eq_nil_of_le (by omega), withoutL, List.filter_nil, List.append_nil] at hp
    refine AWP.exit ?_
    refine AWP.seq ?_
    refine AWP.region ?_
    refine Y (mv rfl) rfl ?_
    refine Y (ass rfl) rfl ?_
    refine AOps.nil ?_
    refine AWP.ret ⟨.inl rfl, ?_⟩
    exact RetH.of (rs := [.tmp 4]) (vs := [_]) rfl ⟨rfl, trivial⟩ (KeepR.cons 0 rfl KeepR.nil) (⟨B, by rw [← hp]; rfl, by rw [← hp]⟩)
theorem sfree_AH (k : Tr) : k.bnd 1000000 → sizeT k ≤ 2000000 → FnH 39 [] [k.av] (ownS (freeT k)) := by
  induction k using Tr.ind
  rename_i kd nm t ks ih
  intro hk hz
  simp only [Tr.bnd] at hk
  obtain ⟨hk1, hk2, hk3⟩ := hk
  have hlen := Tr.avs_length ks
  have hz0 := hz
  rw [sizeT] at hz0
  refine AH.intro Tryz.func39 nm39 rfl rfl rfl fun w0 ok0 own0 => ?_
  refine AWP.seq ?_
  refine AWP.region ?_
  refine AOps.box rfl rfl rfl rfl fun b1 => ?_
  refine Y (ass rfl) rfl ?_
  refine AOps.nil ?_
  refine AWP.seq ?_
  refine AWP.seq ?_
  refine AWP.region ?_
  refine Y (Yields.fieldAddr_ptr fo28_0 rfl) rfl ?_
  refine Y (Yields.load_ptr_field (j := 0) kd3 rfl rfl rfl rfl rfl rfl rfl) rfl ?_
  refine Y (bn rfl rfl BinR.eql rfl) rfl ?_
  refine AOps.nil ?_
  refine AWP.condT rfl (fun h => ?_) (fun h => ?_)
  ·
   replace h := eq_of_beq h
   refine AWP.seq ?_
   refine AWP.region ?_
   refine Y (Yields.fieldAddr_ptr fo28_2 rfl) rfl ?_
   refine Y (Yields.load_ptr_field (j := 0) kd9 rfl rfl rfl rfl rfl rfl rfl) rfl ?_
   refine AOps.buildSlice sl52 z9 rfl rfl rfl rfl rfl fun bs => ?_
   refine Y (ass rfl) rfl ?_
   refine AOps.nil ?_
   refine AWP.ret ⟨.inl rfl, ?_⟩
   exact RetH.of (rs := [.tmp 2]) (vs := [_]) rfl ⟨rfl, trivial⟩ (KeepR.cons 0 rfl KeepR.nil) (⟨some bs, by rw [freeT, if_pos h]; rfl, by rw [freeT, if_pos h]; rfl⟩)
  ·
   replace h := ne_of_beq_false h
   refine AWP.skip ?_
   refine AWP.seq ?_
   refine AWP.region ?_
   refine AOps.buildSlice sl52 z9 rfl rfl rfl rfl rfl fun b0 => ?_
   refine Y (ass rfl) rfl ?_
   refine AOps.nil ?_
   refine AWP.seq ?_
   refine AWP.seq ?_
   refine AWP.region ?_
   refine Y (ass rfl) rfl ?_
   refine AOps.nil ?_
   refine AWP.block ?_
   refine AWP.loopV (α := Option Nat × List ByteArray × Nat) (fun pp : Option Nat × List ByteArray × Nat => match pp with | (B, l, i) => ⟨[(1, .ptr (some b1) 0 0 4), (3, .loc B 0 l.length l.length 1), (4, int i)], [(B, ⟨1, strs l⟩), (some b1, ⟨4, [Tr.av (.mk kd nm t ks)]⟩)]⟩) (fun pp : Option Nat × List ByteArray × Nat => match pp with | (B, l, i) => i ≤ ks.length ∧ (l.length : Int) + sizeTs (ks.drop i) ≤ 2000000 ∧ freeK (ks.drop i) (bindsB kd) t i l = freeT (.mk kd nm t ks)) (fun pp : Option Nat × List ByteArray × Nat => match pp with | (B, l, i) => ks.length - i) ((some b0, [], 0)) ?_ ?_ ?_
   · exact Leads.keepR (KeepR.cons 0 rfl (KeepR.cons 0 rfl KeepR.nil)) ⟨rfl, rfl, rfl, trivial⟩
   ·
    show 0 ≤ ks.length ∧ (([]).length : Int) + sizeTs (ks.drop 0) ≤ 2000000 ∧ freeK (ks.drop 0) (bindsB kd) t 0 ([]) = freeT (.mk kd nm t ks)
    exact ⟨Nat.zero_le _, by rw [List.drop_zero]; simp; omega, by rw [List.drop_zero, freeT, if_neg h]⟩
   ·
    rintro ⟨B, l, i⟩ hinv
    replace hinv : i ≤ ks.length ∧ (l.length : Int) + sizeTs (ks.drop i) ≤ 2000000 ∧ freeK (ks.drop i) (bindsB kd) t i l = freeT (.mk kd nm t ks) := hinv
    show AWP _ _ _ _ ⟨[(1, .ptr (some b1) 0 0 4), (3, .loc B 0 l.length l.length 1), (4, int i)], [(B, ⟨1, strs l⟩), (some b1, ⟨4, [Tr.av (.mk kd nm t ks)]⟩)]⟩
    refine AWP.seq ?_
    refine AWP.seq ?_
    refine AWP.region ?_
    obtain ⟨hi, hm, hp⟩ := hinv
    refine Y (mv rfl) rfl ?_
    refine Y (Yields.fieldAddr_ptr fo28_3 rfl) rfl ?_
    refine Y (Yields.load_ptr_field (j := 1) kd26 rfl rfl rfl rfl rfl rfl rfl) rfl ?_
    refine Y (Yields.len_ro sl26 rfl) rfl ?_
    refine Y (bn rfl rfl BinR.lss rfl) rfl ?_
    refine AOps.nil ?_
    refine AWP.condT rfl (fun g => ?_) (fun g => ?_)
    ·
     replace g := of_decide_eq_true g
     obtain ⟨c, hc, hd⟩ := drop_at (l := ks) (i := i) (by omega)
     rw [hd, freeK] at hp
     rw [hd, sizeTs] at hm
     have hc1 := sizeT_pos c
     have hc2 := sizeTs_pos (ks.drop (i + 1))
     have hlc := freeT_length c
     obtain ⟨ckd, cnm, ct, cks⟩ := c
     refine AWP.skip ?_
     refine AWP.seq ?_
     refine AWP.block ?_
     refine AWP.seq ?_
     refine AWP.region ?_
     refine Y (Yields.fieldAddr_ptr fo28_3 rfl) rfl ?_
     refine Y (Yields.load_ptr_field (j := 1) kd26 rfl rfl rfl rfl rfl rfl rfl) rfl ?_
     refine Y (mv rfl) rfl ?_
     refine Y (Yields.idx_roN sl26 rfl rfl rfl rfl (by omega)) rfl ?_
     refine Y (Yields.load_rop_aggV kd28 rfl (Tr.avs_at hc) rfl) rfl ?_
     refine AOps.callH (.inl trivial) (ih _ (List.mem_of_getElem? hc) (Tr.bnds_get hk3 hc) (by omega)) rfl rfl rfl (WkL.refl _) ?_
     rintro _ _ ⟨Bc, rfl, rfl⟩
     refine Y (ass rfl) rfl ?_
     refine AOps.nil ?_
     refine AWP.midE (α := Option Nat × List ByteArray) (fun pp : Option Nat × List ByteArray => match pp with | (Bd, ld) => ⟨[(1, .ptr (some b1) 0 0 4), (3, .loc B 0 l.length l.length 1), (4, int i), (5, .loc Bd 0 ld.length ld.length 1)], [(Bd, ⟨1, strs ld⟩), (B, ⟨1, strs l⟩), (some b1, ⟨4, [Tr.av (.mk kd nm t ks)]⟩)]⟩) (fun pp : Option Nat × List ByteArray => match pp with | (Bd, ld) => ld = withoutI (bindsB kd) i (freeT (Tr.mk ckd cnm ct cks)) t) ?_ ?_
     ·
      skip
      refine AWP.seq ?_
      refine AWP.region ?_
      refine Y (Yields.load_ptr_agg (j := 2) kd28 rfl rfl rfl rfl) rfl ?_
      refine Y (mv rfl) rfl ?_
      refine AOps.callro (sbinds_AF kd nm t ks i) rfl rfl rfl ?_
      refine AOps.nil ?_
      refine AWP.condT rfl (fun c2 => ?_) (fun c2 => ?_)
      ·
       skip
       refine AWP.region ?_
       have c2 : bindsB kd = true ∧ i = 1 := by simp at c2; exact ⟨c2.1, by omega⟩
       refine Y (mv rfl) rfl ?_
       refine Y (Yields.fieldAddr_ptr fo28_2 rfl) rfl ?_
       refine Y (Yields.load_ptr_field (j := 2) kd9 rfl rfl rfl rfl rfl rfl rfl) rfl ?_
       refine AOps.callHb (.inl trivial) (without_AH (freeT (Tr.mk ckd cnm ct cks)) t (by omega)) rfl rfl rfl ⟨bor_strs (j := 0) rfl rfl, Bor.refl rfl, trivial⟩ (fun r hp' h => ownS.free h) ?_
       rintro _ _ ⟨Bw, rfl, rfl⟩
       refine Y (ass rfl) rfl ?_
       refine AOps.nil ?_
       refine ⟨(Bw, withoutL (freeT (Tr.mk ckd cnm ct cks)) t), ?_, ?_⟩
       ·
        show (withoutL (freeT (Tr.mk ckd cnm ct cks)) t) = withoutI (bindsB kd) i (freeT (Tr.mk ckd cnm ct cks)) t
        rw [withoutI, if_pos c2]
       · exact Leads.keepR (KeepR.cons 0 rfl (KeepR.cons 1 rfl (KeepR.cons 1 rfl KeepR.nil))) ⟨rfl, rfl, rfl, rfl, trivial⟩
      ·
       skip
       have c2 : ¬ (bindsB kd = true ∧ i = 1) := by simp at c2; rintro ⟨q1, q2⟩; exact c2 q1 (by omega)
       refine AWP.skip ?_
       refine ⟨(Bc, freeT (Tr.mk ckd cnm ct cks)), ?_, ?_⟩
       ·
        show (freeT (Tr.mk ckd cnm ct cks)) = withoutI (bindsB kd) i (freeT (Tr.mk ckd cnm ct cks)) t
        rw [withoutI, if_neg c2]
       · exact Leads.keepR (KeepR.cons 0 rfl (KeepR.cons 0 rfl (KeepR.cons 0 rfl KeepR.nil))) ⟨rfl, rfl, rfl, rfl, trivial⟩
     ·
      rintro ⟨Bd, ld⟩ hinv
      replace hinv : ld = withoutI (bindsB kd) i (freeT (Tr.mk ckd cnm ct cks)) t := hinv
      show AWP _ _ _ _ ⟨[(1, .ptr (some b1) 0 0 4), (3, .loc B 0 l.length l.length 1), (4, int i), (5, .loc Bd 0 ld.length ld.length 1)], [(Bd, ⟨1, strs ld⟩), (B, ⟨1, strs l⟩), (some b1, ⟨4, [Tr.av (.mk kd nm t ks)]⟩)]⟩
      refine AWP.region ?_
      rw [← hinv] at hp
      have hld := withoutI_length (bindsB kd) i (freeT (Tr.mk ckd cnm ct cks)) t
      rw [← hinv] at hld
      have hjl := joinL_length ld l
      refine Y (mv rfl) rfl ?_
      refine Y (mv rfl) rfl ?_
      refine AOps.leads (Leads.pull 1 rfl) ?_
      refine AOps.callHb (.inl trivial) (joined_AH l ld B (by omega)) rfl rfl rfl ⟨Bor.refl rfl, bor_strs (j := 0) rfl rfl, trivial⟩ (fun r hp' h => ownS.free h) ?_
      rintro _ _ ⟨Bj, rfl, rfl⟩
      refine Y (ass rfl) rfl ?_
      refine AOps.nil ?_
      refine AWP.region ?_
      refine Y (mv rfl) rfl ?_
      refine Y (bn rfl rfl (BinR.addI (by omega) (by omega)) rfl) rfl ?_
      refine Y (ass rfl) rfl ?_
      refine AOps.nil ?_
      refine ⟨(Bj, joinL l ld, i + 1), ?_, ?_, ?_⟩
      ·
       show ks.length - (i + 1) < ks.length - i
       omega
      ·
       show (i + 1) ≤ ks.length ∧ ((joinL l ld).length : Int) + sizeTs (ks.drop (i + 1)) ≤ 2000000 ∧ freeK (ks.drop (i + 1)) (bindsB kd) t (i + 1) (joinL l ld) = freeT (.mk kd nm t ks)
       exact ⟨by omega, by omega, hp⟩
      · exact Leads.keepR (KeepR.cons 0 rfl (KeepR.cons 1 rfl KeepR.nil)) ⟨rfl, rfl, rfl, trivial⟩
    ·
     replace g := of_decide_eq_false g
     rw [List.drop_eq_nil_of_le (by omega), freeK] at hp
     refine AWP.exit ?_
     refine AWP.seq ?_
     refine AWP.region ?_
     refine Y (mv rfl) rfl ?_
     refine Y (ass rfl) rfl ?_
     refine AOps.nil ?_
     refine AWP.ret ⟨.inl rfl, ?_⟩
     exact RetH.of (rs := [.tmp 2]) (vs := [_]) rfl ⟨rfl, trivial⟩ (KeepR.cons 0 rfl KeepR.nil) (⟨B, by rw [hp]; rfl, by rw [hp]⟩)
def outS (b : Nat) (l : List ByteArray) : AV → Hp → Prop := fun r hp' => ∃ B : Option Nat, r = .tup [] ∧ hp' = [(some b, ⟨1, [.loc B 0 l.length l.length 1]⟩), (B, ⟨1, strs l⟩)]
theorem free_loc (B : Option Nat) (o l k n : Nat) : Free (.loc B o l k n) := fun w ok ok' cs F hr => by cases B <;> simpa only [Rep] using hr
theorem outS.free {b : Nat} {l : List ByteArray} {r : AV} {hp' : Hp} (h : outS b l r hp') : Free r ∧ ∀ B row, (B, row) ∈ hp' → FreeL row.xs := by
  obtain ⟨B, rfl, rfl⟩ := h
  refine ⟨fun w ok ok' cs F hr => by simpa [Rep, RepT] using hr, fun B' row hm => ?_⟩
  simp at hm
  rcases hm with ⟨rfl, rfl⟩ | ⟨rfl, rfl⟩
  · exact ⟨free_loc _ _ _ _ _, trivial⟩
  · exact freeL_strs l
theorem frees_AH (k : Tr) : ∀ (bd out : List ByteArray) (b : Nat) (B : Option Nat) (d : Int), k.bnd 1000000 → sizeT k ≤ 2000000 → validS k d = true → 0 ≤ d → bd.length + d ≤ 100 → (out.length : Int) + sizeT k ≤ 4000000 →
    FnH 88 [(some b, ⟨1, [.loc B 0 out.length out.length 1]⟩), (B, ⟨1, strs out⟩)] [k.av, .ro 1 (strs bd) [] false, .ptr (some b) 0 0 1] (outS b (freesT k bd out)) := by
  induction k using Tr.ind
  rename_i kd nm t ks ih
  intro bd out b B d hk hz hv hd0 hbd hout
  simp only [Tr.bnd] at hk
  obtain ⟨hk1, hk2, hk3⟩ := hk
  obtain ⟨hd, hin, hvs⟩ := validS_inv hv
  have hlen := Tr.avs_length ks
  have hlb := strs_length bd
  have hz0 := hz
  have hout0 := hout
  have hks0 := sizeTs_pos ks
  rw [sizeT] at hz0 hout0
  refine AH.intro Tryz.func88 nm88 rfl rfl rfl fun w0 ok0 own0 => ?_
  refine AWP.seq ?_
  refine AWP.region ?_
  refine AOps.box rfl rfl rfl rfl fun b1 => ?_
  refine AOps.nil ?_
  refine AWP.midE (α := Option Nat × List ByteArray) (fun pp : Option Nat × List ByteArray => match pp with | (B2, l) => ⟨[(1, .ro 1 (strs bd) [] false), (2, .ptr (some b) 0 0 1), (3, .ptr (some b1) 0 0 4)], [(some b1, ⟨4, [Tr.av (.mk kd nm t ks)]⟩), (some b, ⟨1, [.loc B2 0 l.length l.length 1]⟩), (B2, ⟨1, strs l⟩)]⟩) (fun pp : Option Nat × List ByteArray => match pp with | (B2, l) => l = if kd = 3 ∧ memB bd t = false ∧ memB out t = false then out ++ [t] else out) ?_ ?_
  ·
   skip
   refine AWP.seq ?_
   refine AWP.prune (tm' := [(0, _), (1, _), (2, _), (3, _)]) ⟨rfl, rfl, rfl, rfl, trivial⟩ ?_
   refine AWP.drawn mixed rfl rfl ?_
   refine D (tm' := [(3, _)]) ⟨rfl, trivial⟩ (DStep.yields (Yields.fieldAddr_ptr fo28_0 rfl)) rfl ?_
   refine D (tm' := [(8, _)]) ⟨rfl, trivial⟩ (DStep.yields (Yields.load_ptr_field (j := 0) kd3 rfl rfl rfl rfl rfl rfl rfl)) rfl ?_
   refine D (tm' := [(9, _)]) ⟨rfl, trivial⟩ (DStep.yields (bn rfl rfl BinR.eql rfl)) rfl ?_
   refine D (tm' := [(10, _)]) ⟨rfl, trivial⟩ (DStep.yields (mv rfl)) rfl ?_
   refine DOps.split 3 rfl (fun h => ?_) (fun h => ?_)
   ·
    replace h := eq_of_beq h
    refine DOps.on rfl rfl ?_
    refine D (tm' := [(1, _)]) ⟨rfl, trivial⟩ (DStep.yields (mv rfl)) rfl ?_
    refine DOps.on rfl rfl ?_
    refine D (tm' := [(3, _)]) ⟨rfl, trivial⟩ (DStep.yields (Yields.fieldAddr_ptr fo28_2 rfl)) rfl ?_
    refine DOps.on rfl rfl ?_
    refine D (tm' := [(13, _)]) ⟨rfl, trivial⟩ (DStep.yields (Yields.load_ptr_field (j := 0) kd9 rfl rfl rfl rfl rfl rfl rfl)) rfl ?_
    refine DOps.on rfl rfl ?_
    refine D (tm' := [(12, _), (14, _)]) ⟨rfl, rfl, trivial⟩ (DStep.callro (scontains_AF bd t (by omega)) rfl rfl) rfl ?_
    refine DOps.on rfl rfl ?_
    refine D (tm' := [(15, _)]) ⟨rfl, trivial⟩ (DStep.yields (Yields.not rfl)) rfl ?_
    refine D (tm' := [(11, _), (16, _)]) ⟨rfl, rfl, trivial⟩ (DStep.yields (Yields.pick_true rfl rfl)) rfl ?_
    refine D (tm' := [(17, _)]) ⟨rfl, trivial⟩ (DStep.yields (mv rfl)) rfl ?_
    refine DOps.split 10 rfl (fun h2 => ?_) (fun h2 => ?_)
    ·
     skip
     have h2 : memB bd t = false := by simpa using h2
     refine DOps.on rfl rfl ?_
     refine D (tm' := [(2, _)]) ⟨rfl, trivial⟩ (DStep.yields (mv rfl)) rfl ?_
     refine DOps.on rfl rfl ?_
     refine D (tm' := [(19, _)]) ⟨rfl, trivial⟩ (DStep.yields (Yields.nilCheck_ptr rfl)) rfl ?_
     refine DOps.on rfl rfl ?_
     refine D (tm' := [(20, _)]) ⟨rfl, trivial⟩ (DStep.yields (Yields.load_ptr_one (j := 1) kd52 rfl rfl rfl rfl rfl)) rfl ?_
     refine DOps.on rfl rfl ?_
     refine D (tm' := [(3, _)]) ⟨rfl, trivial⟩ (DStep.yields (Yields.fieldAddr_ptr fo28_2 rfl)) rfl ?_
     refine DOps.on rfl rfl ?_
     refine D (tm' := [(22, _)]) ⟨rfl, trivial⟩ (DStep.yields (Yields.load_ptr_field (j := 0) kd9 rfl rfl rfl rfl rfl rfl rfl)) rfl ?_
     refine DOps.on rfl rfl ?_
     refine D (tm' := [(21, _), (23, _)]) ⟨rfl, rfl, trivial⟩ (DStep.call (scontains_AF out t (by omega)) rfl ⟨bor_strs (j := 2) rfl rfl, Bor.refl rfl, trivial⟩ rfl Free.val) rfl ?_
     refine DOps.on rfl rfl ?_
     refine D (tm' := [(24, _)]) ⟨rfl, trivial⟩ (DStep.yields (Yields.not rfl)) rfl ?_
     refine D (tm' := [(18, _), (25, _)]) ⟨rfl, rfl, trivial⟩ (DStep.yields (Yields.pick_true rfl rfl)) rfl ?_
     refine DOps.nil ?_
     refine AWP.condT rfl (fun h3 => ?_) (fun h3 => ?_)
     ·
      skip
      have h3 : memB out t = false := by simpa using h3
      refine AWP.prune (tm' := [(0, _), (1, _), (2, _), (3, _), (26, _)]) ⟨rfl, rfl, rfl, rfl, rfl, trivial⟩ ?_
      refine AWP.drawnM [] [.pure 0, .pure 1, .pure 2, .pure 3, .pure 4, .pure 5, .pure 6, .spine 7 [6] [1, 2, 3, 4, 5, 6], .pure 8, .spine 9 [] [0, 1, 2, 3, 4, 5, 6, 7, 8]] mixed rfl rfl rfl rfl rfl ?_
      refine DM.pure (GX (tm' := [(2, _)]) rfl ⟨rfl, trivial⟩ rfl (DStep.yields (mv rfl)) rfl) ?_
      refine DM.pure (GX (tm' := [(2, _)]) rfl ⟨rfl, trivial⟩ rfl (DStep.yields (mv rfl)) rfl) ?_
      refine DM.pure (GX (tm' := [(28, _)]) rfl ⟨rfl, trivial⟩ rfl (DStep.yields (Yields.nilCheck_ptr rfl)) rfl) ?_
      refine DM.pure (GX (tm' := [(29, _)]) rfl ⟨rfl, trivial⟩ rfl (DStep.yields (Yields.load_ptr_one (j := 1) kd52 rfl rfl rfl rfl rfl)) rfl) ?_
      refine DM.pure (GX (tm' := [(3, _)]) rfl ⟨rfl, trivial⟩ rfl (DStep.yields (Yields.fieldAddr_ptr fo28_2 rfl)) rfl) ?_
      refine DM.pure (GX (tm' := [(31, _)]) rfl ⟨rfl, trivial⟩ rfl (DStep.yields (Yields.load_ptr_field (j := 0) kd9 rfl rfl rfl rfl rfl rfl rfl)) rfl) ?_
      refine DM.pure (GXs (tm' := [(32, _)]) rfl ⟨rfl, trivial⟩ rfl rfl (DStepU.buildSlice sl52 z9 rfl rfl rfl rfl) rfl) ?_
      refine DM.sp rfl rfl ?_
      refine DOpen.own rfl fun bs => ?_
      refine DOpen.nil fun _ _ _ => ?_
      refine AOps.subT (tm' := [(30, _), (33, _)]) ⟨rfl, rfl, trivial⟩ ?_
      refine AOps.appendE (j := 3) sl52 z9 rfl rfl rfl rfl rfl (by simp [strs]) rfl (src_row (j2 := 0) rfl rfl rfl) (len_app out t) (strs_app out t) (by simp; omega) (by simp; omega) fun Bn => ?_
      refine AOps.nil ?_
      refine SpK.mk rfl rfl ?_ ?_
      ·
       skip
       refine Stab.skip rfl ?_
       refine Stab.skip rfl ?_
       refine Stab.skip rfl ?_
       refine Stab.skip rfl ?_
       refine Stab.skip rfl ?_
       refine Stab.skip rfl ?_
       refine Stab.skip rfl ?_
       refine Stab.keep (GX (tm' := [(2, _)]) rfl ⟨rfl, trivial⟩ rfl (DStep.yields (mv rfl)) rfl) ?_
       exact trivial
      refine DM.pure (GX (tm' := [(27, _)]) rfl ⟨rfl, trivial⟩ rfl (DStep.yields (Yields.nilCheck_ptr rfl)) rfl) ?_
      refine DM.sp rfl rfl ?_
      refine DOpen.nil fun _ _ _ => ?_
      refine AOps.subT (tm' := [(35, _), (34, _)]) ⟨rfl, rfl, trivial⟩ ?_
      refine AOps.store (j := 2) kd52 rfl rfl rfl rfl rfl rfl ?_
      refine AOps.nil ?_
      refine SpK.mk0 (Stab.all rfl) ?_
      refine DM.nil ?_
      refine ⟨(Bn, out ++ [t]), ?_, ?_⟩
      ·
       show (out ++ [t]) = if kd = 3 ∧ memB bd t = false ∧ memB out t = false then out ++ [t] else out
       rw [if_pos ⟨h, h2, h3⟩]
      · exact Leads.keepR (KeepR.cons 1 rfl (KeepR.cons 1 rfl (KeepR.cons 1 rfl KeepR.nil))) ⟨rfl, rfl, rfl, trivial⟩
     ·
      skip
      have h3 : memB out t = true := by simpa using h3
      refine AWP.skip ?_
      refine ⟨(B, out), ?_, ?_⟩
      ·
       show out = if kd = 3 ∧ memB bd t = false ∧ memB out t = false then out ++ [t] else out
       rw [if_neg (by rw [h3]; simp)]
      · exact Leads.keepR (KeepR.cons 0 rfl (KeepR.cons 0 rfl (KeepR.cons 0 rfl KeepR.nil))) ⟨rfl, rfl, rfl, trivial⟩
    ·
     skip
     have h2 : memB bd t = true := by simpa using h2
     refine DOps.off rfl rfl rfl rfl ?_
     refine DOps.off rfl rfl rfl rfl ?_
     refine DOps.off rfl rfl rfl rfl ?_
     refine DOps.off rfl rfl rfl rfl ?_
     refine DOps.off rfl rfl rfl rfl ?_
     refine DOps.off rfl rfl rfl rfl ?_
     refine DOps.off rfl rfl rfl rfl ?_
     refine D (tm' := [(18, _), (25, _)]) ⟨rfl, rfl, trivial⟩ (DStep.yields (Yields.pick_false rfl rfl)) rfl ?_
     refine DOps.nil ?_
     refine AWP.cond rfl (fun h => absurd h (by decide)) (fun _ => ?_)
     refine AWP.skip ?_
     refine ⟨(B, out), ?_, ?_⟩
     ·
      show out = if kd = 3 ∧ memB bd t = false ∧ memB out t = false then out ++ [t] else out
      rw [if_neg (by rw [h2]; simp)]
     · exact Leads.keepR (KeepR.cons 0 rfl (KeepR.cons 0 rfl (KeepR.cons 0 rfl KeepR.nil))) ⟨rfl, rfl, rfl, trivial⟩
   ·
    replace h := ne_of_beq_false h
    refine DOps.off rfl rfl rfl rfl ?_
    refine DOps.off rfl rfl rfl rfl ?_
    refine DOps.off rfl rfl rfl rfl ?_
    refine DOps.off rfl rfl rfl rfl ?_
    refine DOps.off rfl rfl rfl rfl ?_
    refine D (tm' := [(11, _), (16, _)]) ⟨rfl, rfl, trivial⟩ (DStep.yields (Yields.pick_false rfl rfl)) rfl ?_
    refine D (tm' := [(17, _)]) ⟨rfl, trivial⟩ (DStep.yields (mv rfl)) rfl ?_
    refine DOps.off rfl rfl rfl rfl ?_
    refine DOps.off rfl rfl rfl rfl ?_
    refine DOps.off rfl rfl rfl rfl ?_
    refine DOps.off rfl rfl rfl rfl ?_
    refine DOps.off rfl rfl rfl rfl ?_
    refine DOps.off rfl rfl rfl rfl ?_
    refine DOps.off rfl rfl rfl rfl ?_
    refine D (tm' := [(18, _), (25, _)]) ⟨rfl, rfl, trivial⟩ (DStep.yields (Yields.pick_false rfl rfl)) rfl ?_
    refine DOps.nil ?_
    refine AWP.cond rfl (fun h => absurd h (by decide)) (fun _ => ?_)
    refine AWP.skip ?_
    refine ⟨(B, out), ?_, ?_⟩
    ·
     show out = if kd = 3 ∧ memB bd t = false ∧ memB out t = false then out ++ [t] else out
     rw [if_neg (fun q => h q.1)]
    · exact Leads.keepR (KeepR.cons 0 rfl (KeepR.cons 0 rfl (KeepR.cons 0 rfl KeepR.nil))) ⟨rfl, rfl, rfl, trivial⟩
  ·
   rintro ⟨B2, l⟩ hinv
   replace hinv : l = if kd = 3 ∧ memB bd t = false ∧ memB out t = false then out ++ [t] else out := hinv
   show AWP _ _ _ _ ⟨[(1, .ro 1 (strs bd) [] false), (2, .ptr (some b) 0 0 1), (3, .ptr (some b1) 0 0 4)], [(some b1, ⟨4, [Tr.av (.mk kd nm t ks)]⟩), (some b, ⟨1, [.loc B2 0 l.length l.length 1]⟩), (B2, ⟨1, strs l⟩)]⟩
   refine AWP.seq ?_
   refine AWP.region ?_
   have hl1 : (l.length : Int) ≤ out.length + 1 := by rw [hinv]; split <;> (try simp) <;> omega
   refine Y (Yields.fieldAddr_ptr fo28_3 rfl) rfl ?_
   refine Y (Yields.load_ptr_field (j := 0) kd26 rfl rfl rfl rfl rfl rfl rfl) rfl ?_
   refine Y (Yields.len_ro sl26 rfl) rfl ?_
   refine Y (mv rfl) rfl ?_
   refine AOps.nil ?_
   refine AWP.block ?_
   refine AWP.loopV (α := Option Nat × List ByteArray × Nat) (fun pp : Option Nat × List ByteArray × Nat => match pp with | (B, l, i) => ⟨[(1, .ro 1 (strs bd) [] false), (2, .ptr (some b) 0 0 1), (3, .ptr (some b1) 0 0 4), (37, .ro 4 (Tr.avs ks) [] false), (38, int (Tr.avs ks).length), (39, int i)], [(some b1, ⟨4, [Tr.av (.mk kd nm t ks)]⟩), (some b, ⟨1, [.loc B 0 l.length l.length 1]⟩), (B, ⟨1, strs l⟩)]⟩) (fun pp : Option Nat × List ByteArray × Nat => match pp with | (B, l, i) => i ≤ ks.length ∧ (l.length : Int) + sizeTs (ks.drop i) ≤ 4000000 ∧ sizeTs (ks.drop i) ≤ 2000000 ∧ freesK (ks.drop i) (bindsB kd) t i bd l = freesT (.mk kd nm t ks) bd out) (fun pp : Option Nat × List ByteArray × Nat => match pp with | (B, l, i) => ks.length - i) ((B2, l, 0)) ?_ ?_ ?_
   · exact Leads.keepR (KeepR.cons 0 rfl (KeepR.cons 0 rfl (KeepR.cons 0 rfl KeepR.nil))) ⟨rfl, rfl, rfl, rfl, rfl, rfl, trivial⟩
   ·
    show 0 ≤ ks.length ∧ (l.length : Int) + sizeTs (ks.drop 0) ≤ 4000000 ∧ sizeTs (ks.drop 0) ≤ 2000000 ∧ freesK (ks.drop 0) (bindsB kd) t 0 bd l = freesT (.mk kd nm t ks) bd out
    exact ⟨Nat.zero_le _, by rw [List.drop_zero]; omega, by rw [List.drop_zero]; omega, by rw [List.drop_zero, freesT, hinv]⟩
   ·
    rintro ⟨B, l, i⟩ hinv
    replace hinv : i ≤ ks.length ∧ (l.length : Int) + sizeTs (ks.drop i) ≤ 4000000 ∧ sizeTs (ks.drop i) ≤ 2000000 ∧ freesK (ks.drop i) (bindsB kd) t i bd l = freesT (.mk kd nm t ks) bd out := hinv
    show AWP _ _ _ _ ⟨[(1, .ro 1 (strs bd) [] false), (2, .ptr (some b) 0 0 1), (3, .ptr (some b1) 0 0 4), (37, .ro 4 (Tr.avs ks) [] false), (38, int (Tr.avs ks).length), (39, int i)], [(some b1, ⟨4, [Tr.av (.mk kd nm t ks)]⟩), (some b, ⟨1, [.loc B 0 l.length l.length 1]⟩), (B, ⟨1, strs l⟩)]⟩
    refine AWP.seq ?_
    refine AWP.region ?_
    obtain ⟨hi, hm, hm2, hp⟩ := hinv
    refine Y (bn rfl rfl BinR.lss rfl) rfl ?_
    refine AOps.nil ?_
    refine AWP.seq ?_
    refine AWP.condT rfl (fun g => ?_) (fun g => ?_)
    ·
     replace g := of_decide_eq_true g
     obtain ⟨c, hc, hd⟩ := drop_at (l := ks) (i := i) (by omega)
     rw [hd, freesK] at hp
     rw [hd, sizeTs] at hm hm2
     have hc1 := sizeT_pos c
     have hc2 := sizeTs_pos (ks.drop (i + 1))
     have hlc := freesT_length c (innerL (bindsB kd) i bd t) l
     obtain ⟨ckd, cnm, ct, cks⟩ := c
     refine AWP.skip ?_
     refine AWP.midE (α := Option Nat × List ByteArray) (fun pp : Option Nat × List ByteArray => match pp with | (B3, l3) => ⟨[(1, .ro 1 (strs bd) [] false), (2, .ptr (some b) 0 0 1), (3, .ptr (some b1) 0 0 4), (37, .ro 4 (Tr.avs ks) [] false), (38, int (Tr.avs ks).length), (39, int i)], [(some b1, ⟨4, [Tr.av (.mk kd nm t ks)]⟩), (some b, ⟨1, [.loc B3 0 l3.length l3.length 1]⟩), (B3, ⟨1, strs l3⟩)]⟩) (fun pp : Option Nat × List ByteArray => match pp with | (B3, l3) => l3 = freesT (Tr.mk ckd cnm ct cks) (innerL (bindsB kd) i bd t) l) ?_ ?_
     ·
      skip
      refine AWP.block ?_
      refine AWP.seq ?_
      refine AWP.region ?_
      refine Y (mv rfl) rfl ?_
      refine Y (Yields.idx_roN sl26 rfl rfl rfl rfl (by omega)) rfl ?_
      refine Y (Yields.load_rop_aggV kd28 rfl (Tr.avs_at hc) rfl) rfl ?_
      refine AOps.alloc rfl z28 rfl rfl fun bk => ?_
      refine Y (ass rfl) rfl ?_
      refine AOps.store (j := 0) kd28 rfl rfl rfl rfl rfl rfl ?_
      refine AOps.nil ?_
      refine AWP.seq ?_
      refine AWP.region ?_
      refine Y (Yields.load_ptr_agg (j := 1) kd28 rfl rfl rfl rfl) rfl ?_
      refine AOps.callro (binds_AF kd nm t ks) rfl rfl rfl ?_
      refine Y (mv rfl) rfl ?_
      refine AOps.split 46 rfl (fun c1 => ?_) (fun c1 => ?_)
      ·
       skip
       refine AOps.on rfl rfl ?_
       refine Y (mv rfl) rfl ?_
       refine AOps.on rfl rfl ?_
       refine Y (bn rfl rfl BinR.eql rfl) rfl ?_
       refine Y (Yields.pick_true rfl rfl) rfl ?_
       refine AOps.nil ?_
       refine AWP.condT rfl (fun c2 => ?_) (fun c2 => ?_)
       ·
        replace c2 := eq_of_beq c2
        have hin : innerL (bindsB kd) i bd t = bd ++ [t] := if_pos ⟨c1, by omega⟩
        refine AWP.prune (tm' := [(1, _), (2, _), (3, _), (37, _), (38, _), (39, _), (40, _), (7, _), (6, _), (49, _)]) ⟨rfl, rfl, rfl, rfl, rfl, rfl, rfl, rfl, rfl, rfl, trivial⟩ ?_
        refine AWP.drawnM [(5, 6)] [.pure 0, .pure 1, .pure 2, .pure 3, .pure 4, .pure 5, .pure 6, .pure 7, .spine 8 [6] [0, 1, 2, 3, 4, 5, 6, 7]] mixed rfl rfl rfl rfl rfl ?_
        refine DM.pure (GX (tm' := [(7, _)]) rfl ⟨rfl, trivial⟩ rfl (DStep.yields (Yields.load_ptr_agg (j := 0) kd28 rfl rfl rfl rfl)) rfl) ?_
        refine DM.pure (GX (tm' := [(1, _)]) rfl ⟨rfl, trivial⟩ rfl (DStep.yields (mv rfl)) rfl) ?_
        refine DM.pure (GX (tm' := [(51, _)]) rfl ⟨rfl, trivial⟩ rfl (DStep.callro (clip_AF bd [] false) rfl rfl) rfl) ?_
        refine DM.pure (GX (tm' := [(3, _)]) rfl ⟨rfl, trivial⟩ rfl (DStep.yields (Yields.fieldAddr_ptr fo28_2 rfl)) rfl) ?_
        refine DM.pure (GX (tm' := [(53, _)]) rfl ⟨rfl, trivial⟩ rfl (DStep.yields (Yields.load_ptr_field (j := 1) kd9 rfl rfl rfl rfl rfl rfl rfl)) rfl) ?_
        refine DM.pure (GXs (tm' := [(54, _)]) rfl ⟨rfl, trivial⟩ rfl rfl (DStepU.buildSlice sl52 z9 rfl rfl rfl rfl) rfl) ?_
        refine DM.pure (GXs (tm' := [(52, _)]) rfl ⟨rfl, trivial⟩ rfl rfl (DStepU.keep (View.own (viewL_refl rfl) (viewL_refl rfl)) (DStepU.appendNew sl52 z9 rfl rfl rfl rfl (src_ro rfl) (by simp) (by simp [strs]; omega) (by simp [strs]; omega))) rfl) ?_
        refine DM.pure (GX (tm' := [(2, _)]) rfl ⟨rfl, trivial⟩ rfl (DStep.yields (mv rfl)) rfl) ?_
        refine DM.sp rfl rfl ?_
        refine DOpen.own rfl fun Bz => ?_
        refine DOpen.nil fun _ _ _ => ?_
        refine AOps.subT (tm' := [(50, _), (56, _), (57, _)]) ⟨rfl, rfl, rfl, trivial⟩ ?_
        refine AOps.leads (Leads.pull 4 rfl) ?_
        refine AOps.leads (Leads.pull 4 rfl) ?_
        refine AOps.callHb (.inl trivial) (ih _ (List.mem_of_getElem? hc) (bd ++ [t]) l b B (d - 1) (Tr.bnds_get hk3 hc) (by omega) (validSs_get hvs hc) (by omega) (by simp; omega) (by omega)) rfl rfl rfl ⟨Bor.refl rfl, Bor.loc (j := 0) rfl (by simp [strs]) (by rw [List.append_nil, List.take_of_length_le (Nat.le_refl _)]; exact viewL_app' bd t), Bor.refl rfl, trivial⟩ (fun r hp' h => outS.free h) ?_
        rintro _ _ ⟨Br, rfl, rfl⟩
        refine AOps.nil ?_
        refine SpK.mk rfl rfl (Stab.all rfl) ?_
        refine DM.nil ?_
        refine ⟨(Br, freesT (Tr.mk ckd cnm ct cks) (bd ++ [t]) l), ?_, ?_⟩
        ·
         show (freesT (Tr.mk ckd cnm ct cks) (bd ++ [t]) l) = freesT (Tr.mk ckd cnm ct cks) (innerL (bindsB kd) i bd t) l
         rw [hin]
        · exact Leads.keepR (KeepR.cons 4 rfl (KeepR.cons 0 rfl (KeepR.cons 0 rfl KeepR.nil))) ⟨rfl, rfl, rfl, rfl, rfl, rfl, trivial⟩
       ·
        replace c2 := ne_of_beq_false c2
        refine AWP.region ?_
        have hin : innerL (bindsB kd) i bd t = bd := if_neg (fun q => c2 (by have := q.2; omega))
        refine Y (Yields.load_ptr_agg (j := 0) kd28 rfl rfl rfl rfl) rfl ?_
        refine Y (mv rfl) rfl ?_
        refine Y (mv rfl) rfl ?_
        refine AOps.leads (Leads.pull 3 rfl) ?_
        refine AOps.leads (Leads.pull 3 rfl) ?_
        refine AOps.callH (.inl trivial) (ih _ (List.mem_of_getElem? hc) bd l b B (d - 1) (Tr.bnds_get hk3 hc) (by omega) (validSs_get hvs hc) (by omega) (by omega) (by omega)) rfl rfl rfl (WkL.refl _) ?_
        rintro _ _ ⟨Br, rfl, rfl⟩
        refine AOps.nil ?_
        refine ⟨(Br, freesT (Tr.mk ckd cnm ct cks) bd l), ?_, ?_⟩
        ·
         show (freesT (Tr.mk ckd cnm ct cks) bd l) = freesT (Tr.mk ckd cnm ct cks) (innerL (bindsB kd) i bd t) l
         rw [hin]
        · exact Leads.keepR (KeepR.cons 3 rfl (KeepR.cons 0 rfl (KeepR.cons 0 rfl KeepR.nil))) ⟨rfl, rfl, rfl, rfl, rfl, rfl, trivial⟩
      ·
       skip
       have hin : innerL (bindsB kd) i bd t = bd := if_neg (fun q => by rw [q.1] at c1; cases c1)
       refine AOps.off' rfl rfl rfl rfl ?_
       refine AOps.off' rfl rfl rfl rfl ?_
       refine Y (Yields.pick_false rfl rfl) rfl ?_
       refine AOps.nil ?_
       refine AWP.cond rfl (fun h => absurd h (by decide)) (fun _ => ?_)
       refine AWP.region ?_
       refine Y (Yields.load_ptr_agg (j := 0) kd28 rfl rfl rfl rfl) rfl ?_
       refine Y (mv rfl) rfl ?_
       refine Y (mv rfl) rfl ?_
       refine AOps.leads (Leads.pull 3 rfl) ?_
       refine AOps.leads (Leads.pull 3 rfl) ?_
       refine AOps.callH (.inl trivial) (ih _ (List.mem_of_getElem? hc) bd l b B (d - 1) (Tr.bnds_get hk3 hc) (by omega) (validSs_get hvs hc) (by omega) (by omega) (by omega)) rfl rfl rfl (WkL.refl _) ?_
       rintro _ _ ⟨Br, rfl, rfl⟩
       refine AOps.nil ?_
       refine ⟨(Br, freesT (Tr.mk ckd cnm ct cks) bd l), ?_, ?_⟩
       ·
        show (freesT (Tr.mk ckd cnm ct cks) bd l) = freesT (Tr.mk ckd cnm ct cks) (innerL (bindsB kd) i bd t) l
        rw [hin]
       · exact Leads.keepR (KeepR.cons 3 rfl (KeepR.cons 0 rfl (KeepR.cons 0 rfl KeepR.nil))) ⟨rfl, rfl, rfl, rfl, rfl, rfl, trivial⟩
     ·
      rintro ⟨B3, l3⟩ hinv
      replace hinv : l3 = freesT (Tr.mk ckd cnm ct cks) (innerL (bindsB kd) i bd t) l := hinv
      show AWP _ _ _ _ ⟨[(1, .ro 1 (strs bd) [] false), (2, .ptr (some b) 0 0 1), (3, .ptr (some b1) 0 0 4), (37, .ro 4 (Tr.avs ks) [] false), (38, int (Tr.avs ks).length), (39, int i)], [(some b1, ⟨4, [Tr.av (.mk kd nm t ks)]⟩), (some b, ⟨1, [.loc B3 0 l3.length l3.length 1]⟩), (B3, ⟨1, strs l3⟩)]⟩
      refine AWP.region ?_
      rw [← hinv] at hp hlc
      refine Y (bn rfl rfl (BinR.addI (by omega) (by omega)) rfl) rfl ?_
      refine Y (mv rfl) rfl ?_
      refine AOps.nil ?_
      refine ⟨(B3, l3, i + 1), ?_, ?_, ?_⟩
      ·
       show ks.length - (i + 1) < ks.length - i
       omega
      ·
       show (i + 1) ≤ ks.length ∧ (l3.length : Int) + sizeTs (ks.drop (i + 1)) ≤ 4000000 ∧ sizeTs (ks.drop (i + 1)) ≤ 2000000 ∧ freesK (ks.drop (i + 1)) (bindsB kd) t (i + 1) bd l3 = freesT (.mk kd nm t ks) bd out
       exact ⟨by omega, by omega, by omega, hp⟩
      · exact Leads.keepR (KeepR.cons 0 rfl (KeepR.cons 0 rfl (KeepR.cons 0 rfl KeepR.nil))) ⟨rfl, rfl, rfl, rfl, rfl, rfl, trivial⟩
    ·
     replace g := of_decide_eq_false g
     rw [List.drop_eq_nil_of_le (by omega), freesK] at hp
     refine AWP.exit ?_
     refine ⟨.inr rfl, ?_⟩
     exact RetH.of (rs := []) (vs := []) rfl trivial (KeepR.cons 1 rfl (KeepR.cons 1 rfl KeepR.nil)) (⟨B, rfl, by rw [hp]⟩)
theorem outB_nil (l : List ByteArray) : l.filter (outB []) = l := List.filter_eq_self.2 fun x _ => rfl
theorem joinL_self : ∀ (l a : List ByteArray), (a ++ l).Nodup → joinL a l = a ++ l
  | [], a, _ => by simp [joinL]
  | n :: l, a, h => by
    have hn : n ∉ a := fun hh => (List.nodup_append.1 h).2.2 n hh n (List.mem_cons_self ..) rfl
    rw [joinL, if_neg (fun q => hn (memB_iff.1 q)), joinL_self l (a ++ [n]) (by rw [List.append_assoc]; exact h), List.append_assoc]; rfl
theorem joinL_nodup : ∀ (l a : List ByteArray), a.Nodup → (joinL a l).Nodup
  | [], a, h => h
  | n :: l, a, h => by
    rw [joinL]
    refine joinL_nodup l _ ?_
    split
    · exact h
    · rename_i q
      refine List.nodup_append.2 ⟨h, by simp, fun x hx y hy e => ?_⟩
      rw [List.mem_singleton.1 hy] at e
      exact q (memB_iff.2 (e ▸ hx))
mutual
theorem freeT_nodup : ∀ k : Tr, (freeT k).Nodup
  | .mk k n t ks => by
    rw [freeT]
    split
    · simp
    · exact freeK_nodup ks _ t 0 [] List.nodup_nil
theorem freeK_nodup : ∀ (ks : List Tr) (b : Bool) (t : ByteArray) (i : Nat) (out : List ByteArray), out.Nodup → (freeK ks b t i out).Nodup
  | [], b, t, i, out, h => h
  | k :: ks, b, t, i, out, h => by
    rw [freeK]
    exact freeK_nodup ks b t (i + 1) _ (joinL_nodup _ _ h)
end
theorem frees_free (k : Tr) (d : Int) (h : validS k d = true) : freesT k [] [] = freeT k := by
  rw [frees_eq k [] [] d h, outB_nil, joinL_self _ [] (show ([] ++ freeT k).Nodup from freeT_nodup k)]; rfl
theorem ifree_AH (k : Tr) (hk : k.bnd 1000000) (hz : sizeT k ≤ 2000000) (d : Int) (hd : 0 ≤ d) (hd2 : d ≤ 100) (hv : validS k d = true) : FnH 72 [] [k.av] (ownS (freeT k)) := by
  have hfr := frees_AH k [] [] 
  have hfe := frees_free k d hv
  obtain ⟨kd, nm, t, ks⟩ := k
  refine AH.intro Tryz.func72 nm72 rfl rfl rfl fun w0 ok0 own0 => ?_
  refine AWP.seq ?_
  refine AWP.region ?_
  refine AOps.box rfl rfl rfl rfl fun b1 => ?_
  refine Y (ass rfl) rfl ?_
  refine AOps.nil ?_
  refine AWP.seq ?_
  refine AWP.region ?_
  refine AOps.alloc rfl z52 rfl rfl fun b3 => ?_
  refine AOps.nil ?_
  refine AWP.seq ?_
  refine AWP.region ?_
  refine Y (Yields.load_ptr_agg (j := 1) kd28 rfl rfl rfl rfl) rfl ?_
  refine AOps.leads (Leads.rowWk 0 0 rfl rfl (Wk.nilLoc (n := 1))) ?_
  refine AOps.leads (Leads.row0 1) ?_
  refine AOps.leads (Leads.pull 0 rfl) ?_
  refine AOps.leads (Leads.pull 1 rfl) ?_
  refine AOps.callH (.inl trivial) (hfr b3 none d hk hz hv hd (by simp; omega) (by simp; omega)) rfl rfl rfl ⟨Wk.refl _, Wk.nil, Wk.refl _, trivial⟩ ?_
  rintro _ _ ⟨Br, rfl, rfl⟩
  refine AOps.nil ?_
  refine AWP.seq ?_
  refine AWP.region ?_
  refine Y (Yields.load_ptr_one (j := 0) kd52 rfl rfl rfl rfl rfl) rfl ?_
  refine Y (ass rfl) rfl ?_
  refine AOps.nil ?_
  refine AWP.ret ⟨.inl rfl, ?_⟩
  exact RetH.of (rs := [.tmp 2]) (vs := [_]) rfl ⟨rfl, trivial⟩ (KeepR.cons 1 rfl KeepR.nil) (⟨Br, by rw [hfe]; rfl, by rw [hfe]⟩)
def freeE (k : Tr) : List ByteArray := if okE k = true then freeT k else []
theorem freeE_length (k : Tr) : ((freeE k).length : Int) ≤ sizeT k := by
  unfold freeE
  split
  · exact freeT_length k
  · have := sizeT_pos k; simp; omega
theorem okE_valid {k : Tr} (h : okE k = true) : validS k 9 = true := by rw [okE, Bool.and_eq_true] at h; exact h.1
theorem freeE_no {k : Tr} (h : okE k = false) : freeE k = [] := if_neg (by rw [h]; simp)
end Go.Proofs.YtccdgppplkfjfaaGreat
