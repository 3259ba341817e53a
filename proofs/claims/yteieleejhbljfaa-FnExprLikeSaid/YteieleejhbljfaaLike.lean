/- Expressions alike but for bound names. -/
import Derived.Test.YteieleejhbljfaaStrs
namespace Go.Proofs.Yteieleejhbljfaa
open Go Go.Ax Go.Proofs
set_option linter.unusedVariables false
set_option linter.unusedSimpArgs false
set_option maxRecDepth 20000

theorem clip_AF (l : List ByteArray) (sp : List AV) (c : Bool) : Fn 85 [.ro 1 (strs l) sp c] (.ro 1 (strs l) [] true) := by
  refine AF.intro Try.func85 nm85 rfl rfl rfl rfl fun w0 ok0 => ?_
  refine AWP.seq ?_
  refine AWP.region ?_
  refine Y (ass rfl) rfl ?_
  refine AOps.nil ?_
  refine AWP.seq ?_
  refine AWP.region ?_
  refine Y (mv rfl) rfl ?_
  refine Y (mv rfl) rfl ?_
  refine Y (Yields.len_ro sl35 rfl) rfl ?_
  refine Y (mv rfl) rfl ?_
  refine Y (Yields.len_ro sl35 rfl) rfl ?_
  refine Y (Yields.clip_ro sl35 rfl rfl rfl rfl rfl) rfl ?_
  refine Y (ass rfl) rfl ?_
  refine AOps.nil ?_
  refine AWP.ret ⟨.inl rfl, ?_⟩
  exact RetIs.oneV rfl rfl (by (rfl) <;> rfl)
def lastL (l : List ByteArray) (s : ByteArray) : Nat → Int
  | 0 => -1
  | i + 1 => if l[i]? = some s then i else lastL l s i
theorem lastL_le (l : List ByteArray) (s : ByteArray) : ∀ i : Nat, -1 ≤ lastL l s i ∧ lastL l s i < i
  | 0 => by simp [lastL]
  | i + 1 => by
    have := lastL_le l s i
    rw [lastL]
    split <;> omega
theorem lastOf_AF (l : List ByteArray) (sp : List AV) (c : Bool) (s : ByteArray) (hl : l.length ≤ 140737488355328) : Fn 84 [.ro 1 (strs l) sp c, str s] (int (lastL l s l.length)) := by
  have hlen := strs_length l
  refine AF.intro Try.func84 nm84 rfl rfl rfl rfl fun w0 ok0 => ?_
  refine AWP.seq ?_
  refine AWP.region ?_
  refine Y (ass rfl) rfl ?_
  refine AOps.nil ?_
  refine AWP.seq ?_
  refine AWP.seq ?_
  refine AWP.region ?_
  refine Y (mv rfl) rfl ?_
  refine Y (Yields.len_ro sl35 rfl) rfl ?_
  refine Y (bn rfl rfl (BinR.subI (by omega) (by omega)) rfl) rfl ?_
  refine Y (ass rfl) rfl ?_
  refine AOps.nil ?_
  refine AWP.block ?_
  refine AWP.loopV (α := Nat) (fun i : Nat => ⟨[(0, .ro 1 (strs l) sp c), (1, str s), (5, int ((i : Int) - 1))], []⟩) (fun i : Nat => i ≤ l.length ∧ lastL l s i = lastL l s l.length) (fun i : Nat => i) (l.length) ?_ ?_ ?_
  · exact Leads.rows 0 ⟨rfl, rfl, (by show some (AV.val (Value.int .i64 _)) = some (AV.val (Value.int .i64 _)); rw [hlen]), trivial⟩
  ·
   show l.length ≤ l.length ∧ lastL l s l.length = lastL l s l.length
   exact ⟨Nat.le_refl _, rfl⟩
  ·
   rintro i hinv
   refine AWP.seq ?_
   refine AWP.seq ?_
   refine AWP.region ?_
   obtain ⟨hi, hp⟩ := hinv
   refine Y (mv rfl) rfl ?_
   refine Y (bn rfl rfl BinR.geq rfl) rfl ?_
   refine AOps.nil ?_
   refine AWP.condT rfl (fun g => ?_) (fun g => ?_)
   ·
    replace g := of_decide_eq_true g
    obtain ⟨t, ht, _⟩ := drop_at (l := l) (i := i - 1) (by omega)
    have hi1 : i = (i - 1) + 1 := by omega
    rw [hi1, lastL, ht] at hp
    refine AWP.skip ?_
    refine AWP.seq ?_
    refine AWP.block ?_
    refine AWP.seq ?_
    refine AWP.region ?_
    refine Y (mv rfl) rfl ?_
    refine Y (mv rfl) rfl ?_
    refine Y (Yields.idx_roN sl35 rfl rfl rfl (j := i - 1) (by omega) (by omega)) rfl ?_
    refine Y (Yields.load_rop_one kd9 rfl (strs_at ht) rfl) rfl ?_
    refine Y (mv rfl) rfl ?_
    refine Y (bn rfl rfl BinR.seql rfl) rfl ?_
    refine AOps.nil ?_
    refine AWP.condT rfl (fun g2 => ?_) (fun g2 => ?_)
    ·
     replace g2 := of_decide_eq_true g2
     refine AWP.seq ?_
     refine AWP.region ?_
     rw [if_pos (by rw [g2])] at hp
     refine Y (mv rfl) rfl ?_
     refine Y (ass rfl) rfl ?_
     refine AOps.nil ?_
     refine AWP.ret ⟨.inl rfl, ?_⟩
     exact RetIs.oneV rfl rfl (by (rw [← hp]; congr 2; omega) <;> rfl)
    ·
     replace g2 := of_decide_eq_false g2
     rw [if_neg (by simpa using g2)] at hp
     refine AWP.skip ?_
     refine AWP.region ?_
     refine Y (mv rfl) rfl ?_
     refine Y (bn rfl rfl (BinR.subI (by omega) (by omega)) rfl) rfl ?_
     refine Y (ass rfl) rfl ?_
     refine AOps.nil ?_
     refine ⟨i - 1, ?_, ?_, ?_⟩
     ·
      show (i - 1) < i
      omega
     ·
      show (i - 1) ≤ l.length ∧ lastL l s (i - 1) = lastL l s l.length
      exact ⟨by omega, hp⟩
     · exact Leads.rows 0 ⟨rfl, rfl, (by show some (AV.val (Value.int .i64 _)) = some (AV.val (Value.int .i64 _)); congr 3; omega), trivial⟩
   ·
    replace g := of_decide_eq_false g
    have h0 : i = 0 := by omega
    subst h0
    refine AWP.exit ?_
    refine AWP.seq ?_
    refine AWP.region ?_
    refine Y (ass rfl) rfl ?_
    refine AOps.nil ?_
    refine AWP.ret ⟨.inl rfl, ?_⟩
    exact RetIs.oneV rfl rfl (by (rw [← hp]; rfl) <;> rfl)

def backL (l : List ByteArray) (s : ByteArray) : Int := if lastL l s l.length = -1 then -1 else l.length - 1 - lastL l s l.length
theorem lastAt_AF (l : List ByteArray) (sp : List AV) (c : Bool) (s : ByteArray) (hl : l.length ≤ 140737488355328) : Fn 86 [.ro 1 (strs l) sp c, str s] (int (backL l s)) := by
  have hlen := strs_length l
  refine AF.intro Try.func86 nm86 rfl rfl rfl rfl fun w0 ok0 => ?_
  refine AWP.seq ?_
  refine AWP.region ?_
  refine Y (ass rfl) rfl ?_
  refine AOps.nil ?_
  refine AWP.seq ?_
  refine AWP.seq ?_
  refine AWP.region ?_
  refine Y (mv rfl) rfl ?_
  refine Y (Yields.len_ro sl35 rfl) rfl ?_
  refine Y (bn rfl rfl (BinR.subI (by omega) (by omega)) rfl) rfl ?_
  refine Y (ass rfl) rfl ?_
  refine AOps.nil ?_
  refine AWP.block ?_
  refine AWP.loopV (α := Nat) (fun i : Nat => ⟨[(0, .ro 1 (strs l) sp c), (1, str s), (5, int ((i : Int) - 1))], []⟩) (fun i : Nat => i ≤ l.length ∧ lastL l s i = lastL l s l.length) (fun i : Nat => i) (l.length) ?_ ?_ ?_
  · exact Leads.rows 0 ⟨rfl, rfl, (by show some (AV.val (Value.int .i64 _)) = some (AV.val (Value.int .i64 _)); rw [hlen]), trivial⟩
  ·
   show l.length ≤ l.length ∧ lastL l s l.length = lastL l s l.length
   exact ⟨Nat.le_refl _, rfl⟩
  ·
   rintro i hinv
   refine AWP.seq ?_
   refine AWP.seq ?_
   refine AWP.region ?_
   obtain ⟨hi, hp⟩ := hinv
   refine Y (mv rfl) rfl ?_
   refine Y (bn rfl rfl BinR.geq rfl) rfl ?_
   refine AOps.nil ?_
   refine AWP.condT rfl (fun g => ?_) (fun g => ?_)
   ·
    replace g := of_decide_eq_true g
    obtain ⟨t, ht, _⟩ := drop_at (l := l) (i := i - 1) (by omega)
    have hi1 : i = (i - 1) + 1 := by omega
    rw [hi1, lastL, ht] at hp
    refine AWP.skip ?_
    refine AWP.seq ?_
    refine AWP.block ?_
    refine AWP.seq ?_
    refine AWP.region ?_
    refine Y (mv rfl) rfl ?_
    refine Y (mv rfl) rfl ?_
    refine Y (Yields.idx_roN sl35 rfl rfl rfl (j := i - 1) (by omega) (by omega)) rfl ?_
    refine Y (Yields.load_rop_one kd9 rfl (strs_at ht) rfl) rfl ?_
    refine Y (mv rfl) rfl ?_
    refine Y (bn rfl rfl BinR.seql rfl) rfl ?_
    refine AOps.nil ?_
    refine AWP.condT rfl (fun g2 => ?_) (fun g2 => ?_)
    ·
     replace g2 := of_decide_eq_true g2
     refine AWP.seq ?_
     refine AWP.region ?_
     rw [if_pos (by rw [g2])] at hp
     refine Y (mv rfl) rfl ?_
     refine Y (Yields.len_ro sl35 rfl) rfl ?_
     refine Y (bn rfl rfl (BinR.subI (by omega) (by omega)) rfl) rfl ?_
     refine Y (mv rfl) rfl ?_
     refine Y (bn rfl rfl (BinR.subI (by omega) (by omega)) rfl) rfl ?_
     refine Y (ass rfl) rfl ?_
     refine AOps.nil ?_
     refine AWP.ret ⟨.inl rfl, ?_⟩
     exact RetIs.oneV rfl rfl (by (rw [backL, ← hp, if_neg (by omega)]; congr 2; omega) <;> rfl)
    ·
     replace g2 := of_decide_eq_false g2
     rw [if_neg (by simpa using g2)] at hp
     refine AWP.skip ?_
     refine AWP.region ?_
     refine Y (mv rfl) rfl ?_
     refine Y (bn rfl rfl (BinR.subI (by omega) (by omega)) rfl) rfl ?_
     refine Y (ass rfl) rfl ?_
     refine AOps.nil ?_
     refine ⟨i - 1, ?_, ?_, ?_⟩
     ·
      show (i - 1) < i
      omega
     ·
      show (i - 1) ≤ l.length ∧ lastL l s (i - 1) = lastL l s l.length
      exact ⟨by omega, hp⟩
     · exact Leads.rows 0 ⟨rfl, rfl, (by show some (AV.val (Value.int .i64 _)) = some (AV.val (Value.int .i64 _)); congr 3; omega), trivial⟩
   ·
    replace g := of_decide_eq_false g
    have h0 : i = 0 := by omega
    subst h0
    refine AWP.exit ?_
    refine AWP.seq ?_
    refine AWP.region ?_
    refine Y (ass rfl) rfl ?_
    refine AOps.nil ?_
    refine AWP.ret ⟨.inl rfl, ?_⟩
    exact RetIs.oneV rfl rfl (by (rw [backL, ← hp, if_pos (show lastL l s 0 = -1 from rfl)]) <;> rfl)
theorem back_iff {l l' : List ByteArray} {s s' : ByteArray} (h : l.length = l'.length) : (backL l s = backL l' s') ↔ lastL l s l.length = lastL l' s' l'.length := by
  have h1 := lastL_le l s l.length
  have h2 := lastL_le l' s' l'.length
  unfold backL
  split <;> split <;> omega
theorem back_nonneg {l : List ByteArray} {s : ByteArray} : 0 ≤ backL l s ↔ 0 ≤ lastL l s l.length := by
  have h1 := lastL_le l s l.length
  unfold backL
  split <;> omega

mutual
def likeT : Tr → Tr → List ByteArray → List ByteArray → Bool
  | .mk k n t ks, .mk k' n' t' ks', us, vs =>
    if k ≠ k' ∨ n ≠ n' ∨ ks.length ≠ ks'.length then false
    else if k = 3 then decide (lastL us t us.length = lastL vs t' vs.length) && (decide (0 ≤ lastL us t us.length) || decide (t = t'))
    else if k = 11 ∨ k = 12 then likeK ks ks' us vs (us ++ [t]) (vs ++ [t']) 0
    else decide (t = t') && likeK ks ks' us vs us vs 0
def likeK : List Tr → List Tr → List ByteArray → List ByteArray → List ByteArray → List ByteArray → Nat → Bool
  | [], [], _, _, _, _, _ => true
  | k :: ks, k' :: ks', us, vs, us2, vs2, i => likeT k k' (if i = 1 then us2 else us) (if i = 1 then vs2 else vs) && likeK ks ks' us vs us2 vs2 (i + 1)
  | _, _, _, _, _, _, _ => false
end

theorem validS_inv {k nm : Int} {t : ByteArray} {ks : List Tr} {d : Int} (h : validS (.mk k nm t ks) d = true) : d ≠ 0 ∧ inR ks.length (lowV k) (highV k) = true ∧ validSs ks (d - 1) = true := by
  rw [validS] at h
  split at h
  · cases h
  · rename_i q
    refine ⟨fun e => q (.inl e), ?_, h⟩
    cases hr : inR ks.length (lowV k) (highV k) with
    | true => rfl
    | false => exact absurd (.inr (.inr (.inr (.inr hr)))) q
theorem validSs_get : ∀ {ks : List Tr} {d : Int} {i : Nat} {k : Tr}, validSs ks d = true → ks[i]? = some k → validS k d = true
  | [], d, i, k, h, hk => by simp at hk
  | a :: ks, d, 0, k, h, hk => by
    simp at hk; subst hk
    rw [validSs, Bool.and_eq_true] at h
    exact h.1
  | a :: ks, d, i + 1, k, h, hk => by
    rw [validSs, Bool.and_eq_true] at h
    exact validSs_get h.2 (by simpa using hk)
theorem strs_append (l : List ByteArray) (t : ByteArray) : ([] ++ strs l) ++ [str t] = strs (l ++ [t]) := by simp [strs]
theorem viewL_app (l : List ByteArray) (t : ByteArray) : ViewL (([] ++ strs l) ++ [str t]) (strs (l ++ [t])) := by
  rw [strs_append]; exact viewL_refl (plain_strs _)
theorem two_of {α : Type} : ∀ {l : List α}, l.length = 2 → ∃ a b, l = [a, b]
  | [a, b], _ => ⟨a, b, rfl⟩
theorem slike_AF (k : Tr) : ∀ (k' : Tr) (us vs : List ByteArray) (d : Int), k.bnd 1000000 → k'.bnd 1000000 → validS k d = true → validS k' d = true → 0 ≤ d → us.length + d ≤ 100 → us.length = vs.length →
    Fn 64 [k.av, k'.av, .ro 1 (strs us) [] false, .ro 1 (strs vs) [] false] (bool (likeT k k' us vs)) := by
  induction k using Tr.ind
  rename_i kd nm t ks ih
  intro k' us vs d hk hk' hv hv' hd0 hus huv
  obtain ⟨kd', nm', t', ks'⟩ := k'
  simp only [Tr.bnd] at hk hk'
  obtain ⟨hk1, hk2, hk3⟩ := hk
  obtain ⟨hk1', hk2', hk3'⟩ := hk'
  obtain ⟨hd, hin, hvs⟩ := validS_inv hv
  obtain ⟨_, hin', hvs'⟩ := validS_inv hv'
  have hla := Tr.avs_length ks
  have hlb := Tr.avs_length ks'
  have hlu := strs_length us
  have hlv := strs_length vs
  refine AF.intro Try.func64 nm64 rfl rfl rfl rfl fun w0 ok0 => ?_
  refine AWP.seq ?_
  refine AWP.region ?_
  refine AOps.box rfl rfl rfl rfl fun b1 => ?_
  refine AOps.box rfl rfl rfl rfl fun b2 => ?_
  refine Y (ass rfl) rfl ?_
  refine AOps.nil ?_
  refine AWP.seq ?_
  refine AWP.seq ?_
  refine AWP.region ?_
  refine Y (Yields.fieldAddr_ptr fo25_0 rfl) rfl ?_
  refine Y (Yields.load_ptr_field (j := 1) kd3 rfl rfl rfl rfl rfl rfl rfl) rfl ?_
  refine Y (Yields.fieldAddr_ptr fo25_0 rfl) rfl ?_
  refine Y (Yields.load_ptr_field (j := 0) kd3 rfl rfl rfl rfl rfl rfl rfl) rfl ?_
  refine Y (bn rfl rfl BinR.neq rfl) rfl ?_
  refine Y (mv rfl) rfl ?_
  refine AOps.split 17 rfl (fun c1 => ?_) (fun c1 => ?_)
  · replace c1 := bne_iff_ne.1 c1
    refine AOps.off' rfl rfl rfl rfl ?_
    refine AOps.off' rfl rfl rfl rfl ?_
    refine AOps.off' rfl rfl rfl rfl ?_
    refine AOps.off' rfl rfl rfl rfl ?_
    refine AOps.off' rfl rfl rfl rfl ?_
    refine Y (Yields.pick_true rfl rfl) rfl ?_
    refine Y (mv rfl) rfl ?_
    refine AOps.off' rfl rfl rfl rfl ?_
    refine AOps.off' rfl rfl rfl rfl ?_
    refine AOps.off' rfl rfl rfl rfl ?_
    refine AOps.off' rfl rfl rfl rfl ?_
    refine AOps.off' rfl rfl rfl rfl ?_
    refine AOps.off' rfl rfl rfl rfl ?_
    refine AOps.off' rfl rfl rfl rfl ?_
    refine Y (Yields.pick_true rfl rfl) rfl ?_
    refine AOps.nil ?_
    refine AWP.cond rfl (fun _ => ?_) (fun h => absurd h (by decide))
    refine AWP.seq ?_
    refine AWP.region ?_
    refine Y (ass rfl) rfl ?_
    refine AOps.nil ?_
    refine AWP.ret ⟨.inl rfl, ?_⟩
    exact RetIs.oneV rfl rfl (by (rw [likeT, if_pos (.inl c1)]) <;> rfl)
  · replace c1 := bne_eq_false_iff_eq.1 c1
    refine AOps.on rfl rfl ?_
    refine Y (Yields.fieldAddr_ptr fo25_1 rfl) rfl ?_
    refine AOps.on rfl rfl ?_
    refine Y (Yields.load_ptr_field (j := 1) kd3 rfl rfl rfl rfl rfl rfl rfl) rfl ?_
    refine AOps.on rfl rfl ?_
    refine Y (Yields.fieldAddr_ptr fo25_1 rfl) rfl ?_
    refine AOps.on rfl rfl ?_
    refine Y (Yields.load_ptr_field (j := 0) kd3 rfl rfl rfl rfl rfl rfl rfl) rfl ?_
    refine AOps.on rfl rfl ?_
    refine Y (bn rfl rfl BinR.neq rfl) rfl ?_
    refine Y (Yields.pick_false rfl rfl) rfl ?_
    refine Y (mv rfl) rfl ?_
    refine AOps.split 24 rfl (fun c2 => ?_) (fun c2 => ?_)
    · replace c2 := bne_iff_ne.1 c2
      refine AOps.off' rfl rfl rfl rfl ?_
      refine AOps.off' rfl rfl rfl rfl ?_
      refine AOps.off' rfl rfl rfl rfl ?_
      refine AOps.off' rfl rfl rfl rfl ?_
      refine AOps.off' rfl rfl rfl rfl ?_
      refine AOps.off' rfl rfl rfl rfl ?_
      refine AOps.off' rfl rfl rfl rfl ?_
      refine Y (Yields.pick_true rfl rfl) rfl ?_
      refine AOps.nil ?_
      refine AWP.cond rfl (fun _ => ?_) (fun h => absurd h (by decide))
      refine AWP.seq ?_
      refine AWP.region ?_
      refine Y (ass rfl) rfl ?_
      refine AOps.nil ?_
      refine AWP.ret ⟨.inl rfl, ?_⟩
      exact RetIs.oneV rfl rfl (by (rw [likeT, if_pos (.inr (.inl c2))]) <;> rfl)
    · replace c2 := bne_eq_false_iff_eq.1 c2
      refine AOps.on rfl rfl ?_
      refine Y (Yields.fieldAddr_ptr fo25_3 rfl) rfl ?_
      refine AOps.on rfl rfl ?_
      refine Y (Yields.load_ptr_field (j := 1) kd23 rfl rfl rfl rfl rfl rfl rfl) rfl ?_
      refine AOps.on rfl rfl ?_
      refine Y (Yields.len_ro sl23 rfl) rfl ?_
      refine AOps.on rfl rfl ?_
      refine Y (Yields.fieldAddr_ptr fo25_3 rfl) rfl ?_
      refine AOps.on rfl rfl ?_
      refine Y (Yields.load_ptr_field (j := 0) kd23 rfl rfl rfl rfl rfl rfl rfl) rfl ?_
      refine AOps.on rfl rfl ?_
      refine Y (Yields.len_ro sl23 rfl) rfl ?_
      refine AOps.on rfl rfl ?_
      refine Y (bn rfl rfl BinR.neq rfl) rfl ?_
      refine Y (Yields.pick_false rfl rfl) rfl ?_
      refine AOps.nil ?_
      refine AWP.condT rfl (fun c3 => ?_) (fun c3 => ?_)
      · replace c3 := bne_iff_ne.1 c3
        refine AWP.seq ?_
        refine AWP.region ?_
        refine Y (ass rfl) rfl ?_
        refine AOps.nil ?_
        refine AWP.ret ⟨.inl rfl, ?_⟩
        exact RetIs.oneV rfl rfl (by (rw [likeT, if_pos (.inr (.inr (by omega)))]) <;> rfl)
      · replace c3 := bne_eq_false_iff_eq.1 c3
        have hne : ¬ (kd ≠ kd' ∨ nm ≠ nm' ∨ ks.length ≠ ks'.length) := by rintro (q | q | q); exact q c1; exact q c2; exact q (by omega)
        refine AWP.skip ?_
        refine AWP.seq ?_
        refine AWP.seq ?_
        refine AWP.region ?_
        refine Y (Yields.fieldAddr_ptr fo25_0 rfl) rfl ?_
        refine Y (Yields.load_ptr_field (j := 1) kd3 rfl rfl rfl rfl rfl rfl rfl) rfl ?_
        refine AOps.nil ?_
        refine AWP.block ?_
        refine AWP.seq ?_
        refine AWP.region ?_
        refine Y (bn rfl rfl BinR.eql rfl) rfl ?_
        refine Y (ass rfl) rfl ?_
        refine AOps.nil ?_
        refine AWP.condT rfl (fun h3 => ?_) (fun h3 => ?_)
        · replace h3 := eq_of_beq h3
          refine AWP.seq ?_
          refine AWP.region ?_
          refine Y (mv rfl) rfl ?_
          refine Y (Yields.fieldAddr_ptr fo25_2 rfl) rfl ?_
          refine Y (Yields.load_ptr_field (j := 1) kd9 rfl rfl rfl rfl rfl rfl rfl) rfl ?_
          refine AOps.callro (lastAt_AF us [] false t (by omega)) rfl rfl rfl ?_
          refine Y (ass rfl) rfl ?_
          refine AOps.nil ?_
          refine AWP.seq ?_
          refine AWP.region ?_
          refine Y (mv rfl) rfl ?_
          refine Y (mv rfl) rfl ?_
          refine Y (Yields.fieldAddr_ptr fo25_2 rfl) rfl ?_
          refine Y (Yields.load_ptr_field (j := 0) kd9 rfl rfl rfl rfl rfl rfl rfl) rfl ?_
          refine AOps.callro (lastAt_AF vs [] false t' (by omega)) rfl rfl rfl ?_
          refine Y (bn rfl rfl BinR.eql rfl) rfl ?_
          refine Y (mv rfl) rfl ?_
          refine AOps.split 47 rfl (fun a1 => ?_) (fun a1 => ?_)
          · replace a1 := eq_of_beq a1
            have a1' := (back_iff huv).1 a1
            refine AOps.on rfl rfl ?_
            refine Y (mv rfl) rfl ?_
            refine AOps.on rfl rfl ?_
            refine Y (bn rfl rfl BinR.geq rfl) rfl ?_
            refine AOps.on rfl rfl ?_
            refine Y (mv rfl) rfl ?_
            refine AOps.split 50 rfl (fun a2 => ?_) (fun a2 => ?_)
            · replace a2 := of_decide_eq_true a2
              have a2' := back_nonneg.1 a2
              refine AOps.off' rfl rfl rfl rfl ?_
              refine AOps.off' rfl rfl rfl rfl ?_
              refine AOps.off' rfl rfl rfl rfl ?_
              refine AOps.off' rfl rfl rfl rfl ?_
              refine AOps.off' rfl rfl rfl rfl ?_
              refine AOps.on rfl rfl ?_
              refine Y (Yields.pick_true rfl rfl) rfl ?_
              refine Y (Yields.pick_true rfl rfl) rfl ?_
              refine Y (ass rfl) rfl ?_
              refine AOps.nil ?_
              refine AWP.ret ⟨.inl rfl, ?_⟩
              exact RetIs.oneV rfl rfl (by (rw [likeT, if_neg hne, if_pos h3, decide_eq_true a1', decide_eq_true a2']) <;> rfl)
            · replace a2 := of_decide_eq_false a2
              have a2' : ¬ 0 ≤ lastL us t us.length := fun q => a2 (back_nonneg.2 q)
              refine AOps.on rfl rfl ?_
              refine Y (Yields.fieldAddr_ptr fo25_2 rfl) rfl ?_
              refine AOps.on rfl rfl ?_
              refine Y (Yields.load_ptr_field (j := 1) kd9 rfl rfl rfl rfl rfl rfl rfl) rfl ?_
              refine AOps.on rfl rfl ?_
              refine Y (Yields.fieldAddr_ptr fo25_2 rfl) rfl ?_
              refine AOps.on rfl rfl ?_
              refine Y (Yields.load_ptr_field (j := 0) kd9 rfl rfl rfl rfl rfl rfl rfl) rfl ?_
              refine AOps.on rfl rfl ?_
              refine Y (bn rfl rfl BinR.seql rfl) rfl ?_
              refine AOps.on rfl rfl ?_
              refine Y (Yields.pick_false rfl rfl) rfl ?_
              refine Y (Yields.pick_true rfl rfl) rfl ?_
              refine Y (ass rfl) rfl ?_
              refine AOps.nil ?_
              refine AWP.ret ⟨.inl rfl, ?_⟩
              exact RetIs.oneV rfl rfl (by (rw [likeT, if_neg hne, if_pos h3, decide_eq_true a1', decide_eq_false a2']) <;> rfl)
          · replace a1 := ne_of_beq_false a1
            have a1' : ¬ lastL us t us.length = lastL vs t' vs.length := fun q => a1 ((back_iff huv).2 q)
            refine AOps.off' rfl rfl rfl rfl ?_
            refine AOps.off' rfl rfl rfl rfl ?_
            refine AOps.off' rfl rfl rfl rfl ?_
            refine AOps.offU rfl rfl rfl ?_
            refine AOps.offU rfl rfl rfl ?_
            refine AOps.offU rfl rfl rfl ?_
            refine AOps.offU rfl rfl rfl ?_
            refine AOps.offU rfl rfl rfl ?_
            refine AOps.off' rfl rfl rfl rfl ?_
            refine Y (Yields.pick_false rfl rfl) rfl ?_
            refine Y (ass rfl) rfl ?_
            refine AOps.nil ?_
            refine AWP.ret ⟨.inl rfl, ?_⟩
            exact RetIs.oneV rfl rfl (by (rw [likeT, if_neg hne, if_pos h3, decide_eq_false a1']) <;> rfl)
        · replace h3 := ne_of_beq_false h3
          refine AWP.midT [(2, .ro 1 (strs us) [] false), (3, .ro 1 (strs vs) [] false), (4, .ptr (some b1) 0 0 4), (5, .ptr (some b2) 0 0 4), (58, bool (decide (kd = 11 ∨ kd = 12)))] [(some b2, ⟨4, [Tr.av (.mk kd' nm' t' ks')]⟩), (some b1, ⟨4, [Tr.av (.mk kd nm t ks)]⟩)] ?_ ?_
          · skip
            refine AWP.seq ?_
            refine AWP.region ?_
            refine Y (bn rfl rfl BinR.eql rfl) rfl ?_
            refine Y (ass rfl) rfl ?_
            refine AOps.nil ?_
            refine AWP.condT rfl (fun h11 => ?_) (fun h11 => ?_)
            · replace h11 := eq_of_beq h11
              refine AWP.skip ?_
              exact Leads.rows 0 ⟨rfl, rfl, rfl, rfl, (by rw [decide_eq_true (.inl h11)]; rfl), trivial⟩
            · replace h11 := ne_of_beq_false h11
              refine AWP.region ?_
              refine Y (bn rfl rfl BinR.eql rfl) rfl ?_
              refine Y (ass rfl) rfl ?_
              refine AOps.nil ?_
              exact Leads.rows 0 ⟨rfl, rfl, rfl, rfl, (by show some (AV.val (Value.bool (kd == 12))) = _; congr 3; rw [Bool.eq_iff_iff]; simp [h11]), trivial⟩
          · skip
            refine AWP.condT rfl (fun hB => ?_) (fun hB => ?_)
            · skip
              refine AWP.seq ?_
              have hB := of_decide_eq_true hB
              have hks2 : ks.length = 2 ∧ ks'.length = 2 := by
                 rcases hB with rfl | rfl <;> simp [inR, lowV, highV] at hin <;> omega
              refine AWP.prune (tm' := [(2, _), (3, _), (4, _), (5, _), (58, _)]) ⟨rfl, rfl, rfl, rfl, rfl, trivial⟩ ?_
              refine AWP.drawnU [(0, 2), (2, 6), (5, 6), (6, 7)] mixed rfl rfl rfl ?_
              refine DUs (tm' := []) trivial rfl rfl (DStepU.buildSlice sl35 z9 rfl rfl rfl rfl) rfl ?_
              refine DU (tm' := [(2, _)]) ⟨rfl, trivial⟩ rfl (DStep.yields (mv rfl)) rfl ?_
              refine DUs (tm' := [(62, _)]) ⟨rfl, trivial⟩ rfl rfl (DStepU.append sl35 z9 rfl rfl rfl (src_ro rfl) (by simp [strs]; omega) (by simp [strs]; omega)) rfl ?_
              refine DU (tm' := [(4, _)]) ⟨rfl, trivial⟩ rfl (DStep.yields (Yields.fieldAddr_ptr fo25_2 rfl)) rfl ?_
              refine DU (tm' := [(64, _)]) ⟨rfl, trivial⟩ rfl (DStep.yields (Yields.load_ptr_field (j := 1) kd9 rfl rfl rfl rfl rfl rfl rfl)) rfl ?_
              refine DUs (tm' := [(65, _)]) ⟨rfl, trivial⟩ rfl rfl (DStepU.buildSlice sl35 z9 rfl rfl rfl rfl) rfl ?_
              refine DUs (tm' := []) trivial rfl rfl (DStepU.keep (View.own (viewL_refl rfl) (viewL_refl rfl)) (DStepU.append sl35 z9 rfl rfl rfl (src_ro rfl) (by simp [strs]; omega) (by simp [strs]; omega))) rfl ?_
              refine DUs (tm' := []) trivial rfl rfl (DStepU.keep (View.own (xs' := strs (us ++ [t])) (viewL_app us t) (viewL_refl rfl)) (DStep.u (DStep.yields (ass rfl)))) rfl ?_
              refine DOpsU.nil ?_
              refine AWP.seq ?_
              have hL : likeT (.mk kd nm t ks) (.mk kd' nm' t' ks') us vs = likeK ks ks' us vs (us ++ [t]) (vs ++ [t']) 0 := by rw [likeT, if_neg hne, if_neg h3, if_pos hB]
              obtain ⟨x0, x1, hx⟩ := two_of hks2.1
              obtain ⟨y0, y1, hy⟩ := two_of hks2.2
              obtain ⟨x0a, x0b, x0c, x0d⟩ := x0
              obtain ⟨x1a, x1b, x1c, x1d⟩ := x1
              obtain ⟨y0a, y0b, y0c, y0d⟩ := y0
              obtain ⟨y1a, y1b, y1c, y1d⟩ := y1
              refine AWP.prune (tm' := [(2, _), (3, _), (4, _), (5, _), (58, _), (10, _)]) ⟨rfl, rfl, rfl, rfl, rfl, rfl, trivial⟩ ?_
              refine AWP.drawnU [(21, 23), (23, 27), (26, 27), (27, 28)] mixed rfl rfl rfl ?_
              refine DU (tm' := [(4, _)]) ⟨rfl, trivial⟩ rfl (DStep.yields (Yields.fieldAddr_ptr fo25_3 rfl)) rfl ?_
              refine DU (tm' := [(68, _)]) ⟨rfl, trivial⟩ rfl (DStep.yields (Yields.load_ptr_field (j := 1) kd23 rfl rfl rfl rfl rfl rfl rfl)) rfl ?_
              refine DU (tm' := [(69, _)]) ⟨rfl, trivial⟩ rfl (DStep.yields (Yields.idx_roN sl23 rfl rfl rfl (j := 0) rfl (by omega))) rfl ?_
              refine DU (tm' := [(70, _)]) ⟨rfl, trivial⟩ rfl (DStep.yields (Yields.load_rop_aggV kd25 rfl (Tr.avs_at (k := Tr.mk x0a x0b x0c x0d) (by rw [hx]; rfl)) rfl)) rfl ?_
              refine DU (tm' := [(5, _)]) ⟨rfl, trivial⟩ rfl (DStep.yields (Yields.fieldAddr_ptr fo25_3 rfl)) rfl ?_
              refine DU (tm' := [(72, _)]) ⟨rfl, trivial⟩ rfl (DStep.yields (Yields.load_ptr_field (j := 0) kd23 rfl rfl rfl rfl rfl rfl rfl)) rfl ?_
              refine DU (tm' := [(73, _)]) ⟨rfl, trivial⟩ rfl (DStep.yields (Yields.idx_roN sl23 rfl rfl rfl (j := 0) rfl (by omega))) rfl ?_
              refine DU (tm' := [(74, _)]) ⟨rfl, trivial⟩ rfl (DStep.yields (Yields.load_rop_aggV kd25 rfl (Tr.avs_at (k := Tr.mk y0a y0b y0c y0d) (by rw [hy]; rfl)) rfl)) rfl ?_
              refine DU (tm' := [(2, _)]) ⟨rfl, trivial⟩ rfl (DStep.yields (mv rfl)) rfl ?_
              refine DU (tm' := [(3, _)]) ⟨rfl, trivial⟩ rfl (DStep.yields (mv rfl)) rfl ?_
              refine DU (tm' := [(71, _), (75, _), (76, _), (77, _)]) ⟨rfl, rfl, rfl, rfl, trivial⟩ rfl (DStep.callro (ih (Tr.mk x0a x0b x0c x0d) (by rw [hx]; simp) (Tr.mk y0a y0b y0c y0d) us vs (d - 1) (Tr.bnds_get (i := 0) hk3 (by rw [hx]; rfl)) (Tr.bnds_get (i := 0) hk3' (by rw [hy]; rfl)) (validSs_get (i := 0) hvs (by rw [hx]; rfl)) (validSs_get (i := 0) hvs' (by rw [hy]; rfl)) (by omega) (by omega) huv) rfl rfl) rfl ?_
              refine DU (tm' := [(78, _)]) ⟨rfl, trivial⟩ rfl (DStep.yields (mv rfl)) rfl ?_
              refine DOpsU.split 11 rfl (fun g1 => ?_) (fun g1 => ?_)
              · skip
                refine DOpsU.on rfl rfl ?_
                refine DU (tm' := [(4, _)]) ⟨rfl, trivial⟩ rfl (DStep.yields (Yields.fieldAddr_ptr fo25_3 rfl)) rfl ?_
                refine DOpsU.on rfl rfl ?_
                refine DU (tm' := [(80, _)]) ⟨rfl, trivial⟩ rfl (DStep.yields (Yields.load_ptr_field (j := 1) kd23 rfl rfl rfl rfl rfl rfl rfl)) rfl ?_
                refine DOpsU.on rfl rfl ?_
                refine DU (tm' := [(81, _)]) ⟨rfl, trivial⟩ rfl (DStep.yields (Yields.idx_roN sl23 rfl rfl rfl (j := 1) rfl (by omega))) rfl ?_
                refine DOpsU.on rfl rfl ?_
                refine DU (tm' := [(82, _)]) ⟨rfl, trivial⟩ rfl (DStep.yields (Yields.load_rop_aggV kd25 rfl (Tr.avs_at (k := Tr.mk x1a x1b x1c x1d) (by rw [hx]; rfl)) rfl)) rfl ?_
                refine DOpsU.on rfl rfl ?_
                refine DU (tm' := [(5, _)]) ⟨rfl, trivial⟩ rfl (DStep.yields (Yields.fieldAddr_ptr fo25_3 rfl)) rfl ?_
                refine DOpsU.on rfl rfl ?_
                refine DU (tm' := [(84, _)]) ⟨rfl, trivial⟩ rfl (DStep.yields (Yields.load_ptr_field (j := 0) kd23 rfl rfl rfl rfl rfl rfl rfl)) rfl ?_
                refine DOpsU.on rfl rfl ?_
                refine DU (tm' := [(85, _)]) ⟨rfl, trivial⟩ rfl (DStep.yields (Yields.idx_roN sl23 rfl rfl rfl (j := 1) rfl (by omega))) rfl ?_
                refine DOpsU.on rfl rfl ?_
                refine DU (tm' := [(86, _)]) ⟨rfl, trivial⟩ rfl (DStep.yields (Yields.load_rop_aggV kd25 rfl (Tr.avs_at (k := Tr.mk y1a y1b y1c y1d) (by rw [hy]; rfl)) rfl)) rfl ?_
                refine DOpsU.on rfl rfl ?_
                refine DU (tm' := [(10, _)]) ⟨rfl, trivial⟩ rfl (DStep.yields (mv rfl)) rfl ?_
                refine DOpsU.on rfl rfl ?_
                refine DUs (tm' := []) trivial rfl rfl (DStepU.buildSlice sl35 z9 rfl rfl rfl rfl) rfl ?_
                refine DOpsU.on rfl rfl ?_
                refine DU (tm' := [(3, _)]) ⟨rfl, trivial⟩ rfl (DStep.yields (mv rfl)) rfl ?_
                refine DOpsU.on rfl rfl ?_
                refine DUs (tm' := [(90, _)]) ⟨rfl, trivial⟩ rfl rfl (DStepU.append sl35 z9 rfl rfl rfl (src_ro rfl) (by simp [strs]; omega) (by simp [strs]; omega)) rfl ?_
                refine DOpsU.on rfl rfl ?_
                refine DU (tm' := [(5, _)]) ⟨rfl, trivial⟩ rfl (DStep.yields (Yields.fieldAddr_ptr fo25_2 rfl)) rfl ?_
                refine DOpsU.on rfl rfl ?_
                refine DU (tm' := [(92, _)]) ⟨rfl, trivial⟩ rfl (DStep.yields (Yields.load_ptr_field (j := 0) kd9 rfl rfl rfl rfl rfl rfl rfl)) rfl ?_
                refine DOpsU.on rfl rfl ?_
                refine DUs (tm' := [(93, _)]) ⟨rfl, trivial⟩ rfl rfl (DStepU.buildSlice sl35 z9 rfl rfl rfl rfl) rfl ?_
                refine DOpsU.on rfl rfl ?_
                refine DUs (tm' := []) trivial rfl rfl (DStepU.keep (View.own (viewL_refl rfl) (viewL_refl rfl)) (DStepU.append sl35 z9 rfl rfl rfl (src_ro rfl) (by simp [strs]; omega) (by simp [strs]; omega))) rfl ?_
                refine DOpsU.on rfl rfl ?_
                refine DUs (tm' := [(83, _), (87, _), (88, _)]) ⟨rfl, rfl, rfl, trivial⟩ rfl rfl (DStepU.keep (View.own (xs' := strs (vs ++ [t'])) (viewL_app vs t') (viewL_refl rfl)) (DStep.u (DStep.callw (ih (Tr.mk x1a x1b x1c x1d) (by rw [hx]; simp) (Tr.mk y1a y1b y1c y1d) (us ++ [t]) (vs ++ [t']) (d - 1) (Tr.bnds_get (i := 1) hk3 (by rw [hx]; rfl)) (Tr.bnds_get (i := 1) hk3' (by rw [hy]; rfl)) (validSs_get (i := 1) hvs (by rw [hx]; rfl)) (validSs_get (i := 1) hvs' (by rw [hy]; rfl)) (by omega) (by simp; omega) (by simp [huv])) rfl (WkL.refl _) rfl))) rfl ?_
                refine DU (tm' := [(79, _), (96, _)]) ⟨rfl, rfl, trivial⟩ rfl (DStep.yields (Yields.pick_true rfl rfl)) rfl ?_
                refine DU (tm' := [(97, _)]) ⟨rfl, trivial⟩ rfl (DStep.yields (ass rfl)) rfl ?_
                refine DOpsU.nil ?_
                refine AWP.ret ⟨.inl rfl, ?_⟩
                exact RetIs.oneV rfl rfl (by (rw [hL, hx, hy]; simp [likeK, g1]) <;> rfl)
              · skip
                refine DOpsU.off rfl rfl rfl rfl rfl ?_
                refine DOpsU.off rfl rfl rfl rfl rfl ?_
                refine DOpsU.off rfl rfl rfl rfl rfl ?_
                refine DOpsU.off rfl rfl rfl rfl rfl ?_
                refine DOpsU.off rfl rfl rfl rfl rfl ?_
                refine DOpsU.off rfl rfl rfl rfl rfl ?_
                refine DOpsU.off rfl rfl rfl rfl rfl ?_
                refine DOpsU.off rfl rfl rfl rfl rfl ?_
                refine DOpsU.off rfl rfl rfl rfl rfl ?_
                refine DOpsU.off rfl rfl rfl rfl rfl ?_
                refine DOpsU.off rfl rfl rfl rfl rfl ?_
                refine DOpsU.off rfl rfl rfl rfl rfl ?_
                refine DOpsU.off rfl rfl rfl rfl rfl ?_
                refine DOpsU.off rfl rfl rfl rfl rfl ?_
                refine DOpsU.off rfl rfl rfl rfl rfl ?_
                refine DOpsU.off rfl rfl rfl rfl rfl ?_
                refine DOpsU.off rfl rfl rfl rfl rfl ?_
                refine DU (tm' := [(79, _), (96, _)]) ⟨rfl, rfl, trivial⟩ rfl (DStep.yields (Yields.pick_false rfl rfl)) rfl ?_
                refine DU (tm' := [(97, _)]) ⟨rfl, trivial⟩ rfl (DStep.yields (ass rfl)) rfl ?_
                refine DOpsU.nil ?_
                refine AWP.ret ⟨.inl rfl, ?_⟩
                exact RetIs.oneV rfl rfl (by (rw [hL, hx, hy]; simp [likeK, g1]) <;> rfl)
            · skip
              have hB := of_decide_eq_false hB
              refine AWP.skip ?_
              refine AWP.seq ?_
              refine AWP.seq ?_
              refine AWP.region ?_
              refine Y (Yields.fieldAddr_ptr fo25_2 rfl) rfl ?_
              refine Y (Yields.load_ptr_field (j := 1) kd9 rfl rfl rfl rfl rfl rfl rfl) rfl ?_
              refine Y (Yields.fieldAddr_ptr fo25_2 rfl) rfl ?_
              refine Y (Yields.load_ptr_field (j := 0) kd9 rfl rfl rfl rfl rfl rfl rfl) rfl ?_
              refine Y (bn rfl rfl BinR.sneq rfl) rfl ?_
              refine AOps.nil ?_
              refine AWP.condT rfl (fun c4 => ?_) (fun c4 => ?_)
              · replace c4 := of_decide_eq_true c4
                refine AWP.seq ?_
                refine AWP.region ?_
                refine Y (ass rfl) rfl ?_
                refine AOps.nil ?_
                refine AWP.ret ⟨.inl rfl, ?_⟩
                exact RetIs.oneV rfl rfl (by (rw [likeT, if_neg hne, if_neg h3, if_neg hB, decide_eq_false c4]) <;> rfl)
              · replace c4 := Decidable.of_not_not (of_decide_eq_false c4)
                refine AWP.skip ?_
                refine AWP.seq ?_
                refine AWP.seq ?_
                refine AWP.region ?_
                refine Y (ass rfl) rfl ?_
                refine AOps.nil ?_
                refine AWP.block ?_
                refine AWP.loopV (α := Nat) (fun i : Nat => ⟨[(2, .ro 1 (strs us) [] false), (3, .ro 1 (strs vs) [] false), (4, .ptr (some b1) 0 0 4), (5, .ptr (some b2) 0 0 4), (11, int i)], [(some b2, ⟨4, [Tr.av (.mk kd' nm' t' ks')]⟩), (some b1, ⟨4, [Tr.av (.mk kd nm t ks)]⟩)]⟩) (fun i : Nat => i ≤ ks.length ∧ likeK (ks.drop i) (ks'.drop i) us vs us vs i = likeK ks ks' us vs us vs 0) (fun i : Nat => ks.length - i) (0) ?_ ?_ ?_
                · exact Leads.rows 0 ⟨rfl, rfl, rfl, rfl, rfl, trivial⟩
                · show 0 ≤ ks.length ∧ likeK (ks.drop 0) (ks'.drop 0) us vs us vs 0 = likeK ks ks' us vs us vs 0
                  exact ⟨Nat.zero_le _, rfl⟩
                · rintro i hinv
                  refine AWP.seq ?_
                  refine AWP.seq ?_
                  refine AWP.region ?_
                  obtain ⟨hi, hp⟩ := hinv
                  refine Y (mv rfl) rfl ?_
                  refine Y (Yields.fieldAddr_ptr fo25_3 rfl) rfl ?_
                  refine Y (Yields.load_ptr_field (j := 1) kd23 rfl rfl rfl rfl rfl rfl rfl) rfl ?_
                  refine Y (Yields.len_ro sl23 rfl) rfl ?_
                  refine Y (bn rfl rfl BinR.lss rfl) rfl ?_
                  refine AOps.nil ?_
                  refine AWP.condT rfl (fun g => ?_) (fun g => ?_)
                  · replace g := of_decide_eq_true g
                    obtain ⟨x, hx, hdx⟩ := drop_at (l := ks) (i := i) (by omega)
                    obtain ⟨y, hy, hdy⟩ := drop_at (l := ks') (i := i) (by omega)
                    rw [hdx, hdy, likeK, ite_self, ite_self] at hp
                    refine AWP.skip ?_
                    refine AWP.seq ?_
                    refine AWP.block ?_
                    refine AWP.seq ?_
                    refine AWP.prune (tm' := [(2, _), (3, _), (4, _), (5, _), (11, _), (107, _)]) ⟨rfl, rfl, rfl, rfl, rfl, rfl, trivial⟩ ?_
                    refine AWP.drawn mixed rfl rfl ?_
                    refine D (tm' := [(4, _)]) ⟨rfl, trivial⟩ (DStep.yields (Yields.fieldAddr_ptr fo25_3 rfl)) rfl ?_
                    refine D (tm' := [(110, _)]) ⟨rfl, trivial⟩ (DStep.yields (Yields.load_ptr_field (j := 1) kd23 rfl rfl rfl rfl rfl rfl rfl)) rfl ?_
                    refine D (tm' := [(11, _)]) ⟨rfl, trivial⟩ (DStep.yields (mv rfl)) rfl ?_
                    refine D (tm' := [(111, _), (112, _)]) ⟨rfl, rfl, trivial⟩ (DStep.yields (Yields.idx_roN sl23 rfl rfl rfl rfl (by omega))) rfl ?_
                    refine D (tm' := [(113, _)]) ⟨rfl, trivial⟩ (DStep.yields (Yields.load_rop_aggV kd25 rfl (Tr.avs_at hx) (Tr.av_agg x))) rfl ?_
                    refine D (tm' := [(5, _)]) ⟨rfl, trivial⟩ (DStep.yields (Yields.fieldAddr_ptr fo25_3 rfl)) rfl ?_
                    refine D (tm' := [(115, _)]) ⟨rfl, trivial⟩ (DStep.yields (Yields.load_ptr_field (j := 0) kd23 rfl rfl rfl rfl rfl rfl rfl)) rfl ?_
                    refine D (tm' := [(11, _)]) ⟨rfl, trivial⟩ (DStep.yields (mv rfl)) rfl ?_
                    refine D (tm' := [(116, _), (117, _)]) ⟨rfl, rfl, trivial⟩ (DStep.yields (Yields.idx_roN sl23 rfl rfl rfl rfl (by omega))) rfl ?_
                    refine D (tm' := [(118, _)]) ⟨rfl, trivial⟩ (DStep.yields (Yields.load_rop_aggV kd25 rfl (Tr.avs_at hy) (Tr.av_agg y))) rfl ?_
                    refine D (tm' := [(2, _)]) ⟨rfl, trivial⟩ (DStep.yields (mv rfl)) rfl ?_
                    refine D (tm' := [(3, _)]) ⟨rfl, trivial⟩ (DStep.yields (mv rfl)) rfl ?_
                    refine D (tm' := [(114, _), (119, _), (120, _), (121, _)]) ⟨rfl, rfl, rfl, rfl, trivial⟩ (DStep.callro (ih x (List.mem_of_getElem? hx) y us vs (d - 1) (Tr.bnds_get hk3 hx) (Tr.bnds_get hk3' hy) (validSs_get hvs hx) (validSs_get hvs' hy) (by omega) (by omega) huv) rfl rfl) rfl ?_
                    refine D (tm' := [(122, _)]) ⟨rfl, trivial⟩ (DStep.yields (Yields.not rfl)) rfl ?_
                    refine DOps.nil ?_
                    refine AWP.condT rfl (fun g2 => ?_) (fun g2 => ?_)
                    · skip
                      refine AWP.seq ?_
                      refine AWP.region ?_
                      have g2 : likeT x y us vs = false := by simpa using g2
                      refine Y (ass rfl) rfl ?_
                      refine AOps.nil ?_
                      refine AWP.ret ⟨.inl rfl, ?_⟩
                      exact RetIs.oneV rfl rfl (by (rw [likeT, if_neg hne, if_neg h3, if_neg hB, ← hp, g2]; simp) <;> rfl)
                    · skip
                      have g2 : likeT x y us vs = true := by simpa using g2
                      refine AWP.skip ?_
                      refine AWP.region ?_
                      refine Y (mv rfl) rfl ?_
                      refine Y (bn rfl rfl (BinR.addI (by omega) (by omega)) rfl) rfl ?_
                      refine Y (ass rfl) rfl ?_
                      refine AOps.nil ?_
                      refine ⟨i + 1, ?_, ?_, ?_⟩
                      · show ks.length - (i + 1) < ks.length - i
                        omega
                      · show (i + 1) ≤ ks.length ∧ likeK (ks.drop (i + 1)) (ks'.drop (i + 1)) us vs us vs (i + 1) = likeK ks ks' us vs us vs 0
                        exact ⟨by omega, by rw [← hp, g2, Bool.true_and]⟩
                      · exact Leads.rows 0 ⟨rfl, rfl, rfl, rfl, rfl, trivial⟩
                  · replace g := of_decide_eq_false g
                    rw [List.drop_eq_nil_of_le (by omega), List.drop_eq_nil_of_le (by omega), likeK] at hp
                    refine AWP.exit ?_
                    refine AWP.seq ?_
                    refine AWP.region ?_
                    refine Y (ass rfl) rfl ?_
                    refine AOps.nil ?_
                    refine AWP.ret ⟨.inl rfl, ?_⟩
                    exact RetIs.oneV rfl rfl (by (rw [likeT, if_neg hne, if_neg h3, if_neg hB, ← hp, decide_eq_true c4]) <;> rfl)
def bindsB (k : Int) : Bool := decide (k = 11) || decide (k = 12)
theorem binds_AF (kd nm : Int) (t : ByteArray) (ks : List Tr) : Fn 76 [Tr.av (.mk kd nm t ks)] (bool (bindsB kd)) := by
  refine AF.intro Try.func76 nm76 rfl rfl rfl rfl fun w0 ok0 => ?_
  refine AWP.seq ?_
  refine AWP.region ?_
  refine AOps.box rfl rfl rfl rfl fun b1 => ?_
  refine Y (ass rfl) rfl ?_
  refine AOps.nil ?_
  refine AWP.seq ?_
  refine AWP.region ?_
  refine Y (Yields.fieldAddr_ptr fo25_0 rfl) rfl ?_
  refine Y (Yields.load_ptr_field (j := 0) kd3 rfl rfl rfl rfl rfl rfl rfl) rfl ?_
  refine Y (bn rfl rfl BinR.eql rfl) rfl ?_
  refine Y (mv rfl) rfl ?_
  refine AOps.split 6 rfl (fun h => ?_) (fun h => ?_)
  ·
   replace h := eq_of_beq h
   refine AOps.off' rfl rfl rfl rfl ?_
   refine AOps.off' rfl rfl rfl rfl ?_
   refine AOps.off' rfl rfl rfl rfl ?_
   refine Y (Yields.pick_true rfl rfl) rfl ?_
   refine Y (ass rfl) rfl ?_
   refine AOps.nil ?_
   refine AWP.ret ⟨.inl rfl, ?_⟩
   exact RetIs.oneV rfl rfl (congrArg (fun b => AV.val (Value.bool b)) (by rw [Bool.eq_iff_iff]; first | (simp [bindsB, h]; done) | (simp [bindsB, h]; omega) | (simp_all [bindsB, h]; done) | (simp_all [bindsB, h]; omega) | (simp_all [bindsB, h]; intros; omega)))
  ·
   replace h := ne_of_beq_false h
   refine AOps.on rfl rfl ?_
   refine Y (Yields.fieldAddr_ptr fo25_0 rfl) rfl ?_
   refine AOps.on rfl rfl ?_
   refine Y (Yields.load_ptr_field (j := 0) kd3 rfl rfl rfl rfl rfl rfl rfl) rfl ?_
   refine AOps.on rfl rfl ?_
   refine Y (bn rfl rfl BinR.eql rfl) rfl ?_
   refine Y (Yields.pick_false rfl rfl) rfl ?_
   refine Y (ass rfl) rfl ?_
   refine AOps.nil ?_
   refine AWP.ret ⟨.inl rfl, ?_⟩
   exact RetIs.oneV rfl rfl (congrArg (fun b => AV.val (Value.bool b)) (by rw [Bool.eq_iff_iff]; first | (simp [bindsB, h]; done) | (simp [bindsB, h]; omega) | (simp_all [bindsB, h]; done) | (simp_all [bindsB, h]; omega) | (simp_all [bindsB, h]; intros; omega)))
theorem look_eq {tm : List (Nat × AV)} {t : Nat} {v v' : AV} (h : Go.Ax.look tm t = some v) (e : v = v') : Go.Ax.look tm t = some v' := e ▸ h
def innerL (b : Bool) (i : Nat) (us : List ByteArray) (t : ByteArray) : List ByteArray := if b = true ∧ i = 1 then us ++ [t] else us
theorem viewL_app' (l : List ByteArray) (t : ByteArray) : ViewL (strs l ++ [str t]) (strs (l ++ [t])) := viewL_app l t
theorem ialike_AF (k : Tr) : ∀ (k' : Tr) (us vs : List ByteArray) (d : Int), k.bnd 1000000 → k'.bnd 1000000 → validS k d = true → validS k' d = true → 0 ≤ d → us.length + d ≤ 100 → us.length = vs.length →
    Fn 63 [k.av, k'.av, .ro 1 (strs us) [] false, .ro 1 (strs vs) [] false] (bool (likeT k k' us vs)) := by
  induction k using Tr.ind
  rename_i kd nm t ks ih
  intro k' us vs d hk hk' hv hv' hd0 hus huv
  obtain ⟨kd', nm', t', ks'⟩ := k'
  simp only [Tr.bnd] at hk hk'
  obtain ⟨hk1, hk2, hk3⟩ := hk
  obtain ⟨hk1', hk2', hk3'⟩ := hk'
  obtain ⟨hd, hin, hvs⟩ := validS_inv hv
  obtain ⟨_, hin', hvs'⟩ := validS_inv hv'
  have hla := Tr.avs_length ks
  have hlb := Tr.avs_length ks'
  have hlu := strs_length us
  have hlv := strs_length vs
  refine AF.intro Try.func63 nm63 rfl rfl rfl rfl fun w0 ok0 => ?_
  refine AWP.seq ?_
  refine AWP.region ?_
  refine AOps.box rfl rfl rfl rfl fun b1 => ?_
  refine AOps.box rfl rfl rfl rfl fun b2 => ?_
  refine Y (ass rfl) rfl ?_
  refine AOps.nil ?_
  refine AWP.seq ?_
  refine AWP.seq ?_
  refine AWP.region ?_
  refine Y (Yields.fieldAddr_ptr fo25_0 rfl) rfl ?_
  refine Y (Yields.load_ptr_field (j := 1) kd3 rfl rfl rfl rfl rfl rfl rfl) rfl ?_
  refine Y (Yields.fieldAddr_ptr fo25_0 rfl) rfl ?_
  refine Y (Yields.load_ptr_field (j := 0) kd3 rfl rfl rfl rfl rfl rfl rfl) rfl ?_
  refine Y (bn rfl rfl BinR.neq rfl) rfl ?_
  refine Y (mv rfl) rfl ?_
  refine AOps.split 19 rfl (fun c1 => ?_) (fun c1 => ?_)
  · replace c1 := bne_iff_ne.1 c1
    refine AOps.off' rfl rfl rfl rfl ?_
    refine AOps.off' rfl rfl rfl rfl ?_
    refine AOps.off' rfl rfl rfl rfl ?_
    refine AOps.off' rfl rfl rfl rfl ?_
    refine AOps.off' rfl rfl rfl rfl ?_
    refine Y (Yields.pick_true rfl rfl) rfl ?_
    refine Y (mv rfl) rfl ?_
    refine AOps.off' rfl rfl rfl rfl ?_
    refine AOps.off' rfl rfl rfl rfl ?_
    refine AOps.off' rfl rfl rfl rfl ?_
    refine AOps.off' rfl rfl rfl rfl ?_
    refine AOps.off' rfl rfl rfl rfl ?_
    refine AOps.off' rfl rfl rfl rfl ?_
    refine AOps.off' rfl rfl rfl rfl ?_
    refine Y (Yields.pick_true rfl rfl) rfl ?_
    refine AOps.nil ?_
    refine AWP.cond rfl (fun _ => ?_) (fun h => absurd h (by decide))
    refine AWP.seq ?_
    refine AWP.region ?_
    refine Y (ass rfl) rfl ?_
    refine AOps.nil ?_
    refine AWP.ret ⟨.inl rfl, ?_⟩
    exact RetIs.oneV rfl rfl (by (rw [likeT, if_pos (.inl c1)]) <;> rfl)
  · replace c1 := bne_eq_false_iff_eq.1 c1
    refine AOps.on rfl rfl ?_
    refine Y (Yields.fieldAddr_ptr fo25_1 rfl) rfl ?_
    refine AOps.on rfl rfl ?_
    refine Y (Yields.load_ptr_field (j := 1) kd3 rfl rfl rfl rfl rfl rfl rfl) rfl ?_
    refine AOps.on rfl rfl ?_
    refine Y (Yields.fieldAddr_ptr fo25_1 rfl) rfl ?_
    refine AOps.on rfl rfl ?_
    refine Y (Yields.load_ptr_field (j := 0) kd3 rfl rfl rfl rfl rfl rfl rfl) rfl ?_
    refine AOps.on rfl rfl ?_
    refine Y (bn rfl rfl BinR.neq rfl) rfl ?_
    refine Y (Yields.pick_false rfl rfl) rfl ?_
    refine Y (mv rfl) rfl ?_
    refine AOps.split 26 rfl (fun c2 => ?_) (fun c2 => ?_)
    · replace c2 := bne_iff_ne.1 c2
      refine AOps.off' rfl rfl rfl rfl ?_
      refine AOps.off' rfl rfl rfl rfl ?_
      refine AOps.off' rfl rfl rfl rfl ?_
      refine AOps.off' rfl rfl rfl rfl ?_
      refine AOps.off' rfl rfl rfl rfl ?_
      refine AOps.off' rfl rfl rfl rfl ?_
      refine AOps.off' rfl rfl rfl rfl ?_
      refine Y (Yields.pick_true rfl rfl) rfl ?_
      refine AOps.nil ?_
      refine AWP.cond rfl (fun _ => ?_) (fun h => absurd h (by decide))
      refine AWP.seq ?_
      refine AWP.region ?_
      refine Y (ass rfl) rfl ?_
      refine AOps.nil ?_
      refine AWP.ret ⟨.inl rfl, ?_⟩
      exact RetIs.oneV rfl rfl (by (rw [likeT, if_pos (.inr (.inl c2))]) <;> rfl)
    · replace c2 := bne_eq_false_iff_eq.1 c2
      refine AOps.on rfl rfl ?_
      refine Y (Yields.fieldAddr_ptr fo25_3 rfl) rfl ?_
      refine AOps.on rfl rfl ?_
      refine Y (Yields.load_ptr_field (j := 1) kd23 rfl rfl rfl rfl rfl rfl rfl) rfl ?_
      refine AOps.on rfl rfl ?_
      refine Y (Yields.len_ro sl23 rfl) rfl ?_
      refine AOps.on rfl rfl ?_
      refine Y (Yields.fieldAddr_ptr fo25_3 rfl) rfl ?_
      refine AOps.on rfl rfl ?_
      refine Y (Yields.load_ptr_field (j := 0) kd23 rfl rfl rfl rfl rfl rfl rfl) rfl ?_
      refine AOps.on rfl rfl ?_
      refine Y (Yields.len_ro sl23 rfl) rfl ?_
      refine AOps.on rfl rfl ?_
      refine Y (bn rfl rfl BinR.neq rfl) rfl ?_
      refine Y (Yields.pick_false rfl rfl) rfl ?_
      refine AOps.nil ?_
      refine AWP.condT rfl (fun c3 => ?_) (fun c3 => ?_)
      · replace c3 := bne_iff_ne.1 c3
        refine AWP.seq ?_
        refine AWP.region ?_
        refine Y (ass rfl) rfl ?_
        refine AOps.nil ?_
        refine AWP.ret ⟨.inl rfl, ?_⟩
        exact RetIs.oneV rfl rfl (by (rw [likeT, if_pos (.inr (.inr (by omega)))]) <;> rfl)
      · replace c3 := bne_eq_false_iff_eq.1 c3
        have hne : ¬ (kd ≠ kd' ∨ nm ≠ nm' ∨ ks.length ≠ ks'.length) := by rintro (q | q | q); exact q c1; exact q c2; exact q (by omega)
        refine AWP.skip ?_
        refine AWP.seq ?_
        refine AWP.seq ?_
        refine AWP.region ?_
        refine Y (Yields.fieldAddr_ptr fo25_0 rfl) rfl ?_
        refine Y (Yields.load_ptr_field (j := 1) kd3 rfl rfl rfl rfl rfl rfl rfl) rfl ?_
        refine Y (bn rfl rfl BinR.eql rfl) rfl ?_
        refine AOps.nil ?_
        refine AWP.condT rfl (fun h3 => ?_) (fun h3 => ?_)
        · replace h3 := eq_of_beq h3
          refine AWP.seq ?_
          refine AWP.prune (tm' := [(0, _), (1, _), (2, _), (3, _), (4, _), (5, _), (8, _), (34, _), (37, _)]) ⟨rfl, rfl, rfl, rfl, rfl, rfl, rfl, rfl, rfl, trivial⟩ ?_
          refine AWP.drawn mixed rfl rfl ?_
          refine D (tm' := [(2, _)]) ⟨rfl, trivial⟩ (DStep.yields (mv rfl)) rfl ?_
          refine D (tm' := [(4, _)]) ⟨rfl, trivial⟩ (DStep.yields (Yields.fieldAddr_ptr fo25_2 rfl)) rfl ?_
          refine D (tm' := [(39, _)]) ⟨rfl, trivial⟩ (DStep.yields (Yields.load_ptr_field (j := 1) kd9 rfl rfl rfl rfl rfl rfl rfl)) rfl ?_
          refine D (tm' := [(38, _), (40, _)]) ⟨rfl, rfl, trivial⟩ (DStep.callro (lastOf_AF us [] false t (by omega)) rfl rfl) rfl ?_
          refine D (tm' := [(3, _)]) ⟨rfl, trivial⟩ (DStep.yields (mv rfl)) rfl ?_
          refine D (tm' := [(5, _)]) ⟨rfl, trivial⟩ (DStep.yields (Yields.fieldAddr_ptr fo25_2 rfl)) rfl ?_
          refine D (tm' := [(43, _)]) ⟨rfl, trivial⟩ (DStep.yields (Yields.load_ptr_field (j := 0) kd9 rfl rfl rfl rfl rfl rfl rfl)) rfl ?_
          refine D (tm' := [(42, _), (44, _)]) ⟨rfl, rfl, trivial⟩ (DStep.callro (lastOf_AF vs [] false t' (by omega)) rfl rfl) rfl ?_
          refine D (tm' := [(41, _)]) ⟨rfl, trivial⟩ (DStep.yields (ass rfl)) rfl ?_
          refine D (tm' := [(45, _)]) ⟨rfl, trivial⟩ (DStep.yields (ass rfl)) rfl ?_
          refine DOps.nil ?_
          refine AWP.seq ?_
          refine AWP.region ?_
          refine Y (mv rfl) rfl ?_
          refine Y (mv rfl) rfl ?_
          refine Y (bn rfl rfl BinR.eql rfl) rfl ?_
          refine Y (mv rfl) rfl ?_
          refine AOps.split 49 rfl (fun a1 => ?_) (fun a1 => ?_)
          · replace a1 := eq_of_beq a1
            refine AOps.on rfl rfl ?_
            refine Y (mv rfl) rfl ?_
            refine AOps.on rfl rfl ?_
            refine Y (bn rfl rfl BinR.geq rfl) rfl ?_
            refine AOps.on rfl rfl ?_
            refine Y (mv rfl) rfl ?_
            refine AOps.split 52 rfl (fun a2 => ?_) (fun a2 => ?_)
            · replace a2 := of_decide_eq_true a2
              refine AOps.off' rfl rfl rfl rfl ?_
              refine AOps.off' rfl rfl rfl rfl ?_
              refine AOps.off' rfl rfl rfl rfl ?_
              refine AOps.off' rfl rfl rfl rfl ?_
              refine AOps.off' rfl rfl rfl rfl ?_
              refine AOps.on rfl rfl ?_
              refine Y (Yields.pick_true rfl rfl) rfl ?_
              refine Y (Yields.pick_true rfl rfl) rfl ?_
              refine Y (ass rfl) rfl ?_
              refine AOps.nil ?_
              refine AWP.ret ⟨.inl rfl, ?_⟩
              exact RetIs.oneV rfl rfl (by (rw [likeT, if_neg hne, if_pos h3, decide_eq_true a1, decide_eq_true a2]) <;> rfl)
            · replace a2 := of_decide_eq_false a2
              refine AOps.on rfl rfl ?_
              refine Y (Yields.fieldAddr_ptr fo25_2 rfl) rfl ?_
              refine AOps.on rfl rfl ?_
              refine Y (Yields.load_ptr_field (j := 1) kd9 rfl rfl rfl rfl rfl rfl rfl) rfl ?_
              refine AOps.on rfl rfl ?_
              refine Y (Yields.fieldAddr_ptr fo25_2 rfl) rfl ?_
              refine AOps.on rfl rfl ?_
              refine Y (Yields.load_ptr_field (j := 0) kd9 rfl rfl rfl rfl rfl rfl rfl) rfl ?_
              refine AOps.on rfl rfl ?_
              refine Y (bn rfl rfl BinR.seql rfl) rfl ?_
              refine AOps.on rfl rfl ?_
              refine Y (Yields.pick_false rfl rfl) rfl ?_
              refine Y (Yields.pick_true rfl rfl) rfl ?_
              refine Y (ass rfl) rfl ?_
              refine AOps.nil ?_
              refine AWP.ret ⟨.inl rfl, ?_⟩
              exact RetIs.oneV rfl rfl (by (rw [likeT, if_neg hne, if_pos h3, decide_eq_true a1, decide_eq_false a2]) <;> rfl)
          · replace a1 := ne_of_beq_false a1
            refine AOps.off' rfl rfl rfl rfl ?_
            refine AOps.off' rfl rfl rfl rfl ?_
            refine AOps.off' rfl rfl rfl rfl ?_
            refine AOps.offU rfl rfl rfl ?_
            refine AOps.offU rfl rfl rfl ?_
            refine AOps.offU rfl rfl rfl ?_
            refine AOps.offU rfl rfl rfl ?_
            refine AOps.offU rfl rfl rfl ?_
            refine AOps.off' rfl rfl rfl rfl ?_
            refine Y (Yields.pick_false rfl rfl) rfl ?_
            refine Y (ass rfl) rfl ?_
            refine AOps.nil ?_
            refine AWP.ret ⟨.inl rfl, ?_⟩
            exact RetIs.oneV rfl rfl (by (rw [likeT, if_neg hne, if_pos h3, decide_eq_false a1]) <;> rfl)
        · replace h3 := ne_of_beq_false h3
          refine AWP.skip ?_
          refine AWP.midP (bindsB kd = true ∨ t = t') [(2, .ro 1 (strs us) [] false), (3, .ro 1 (strs vs) [] false), (4, .ptr (some b1) 0 0 4), (5, .ptr (some b2) 0 0 4)] [(some b2, ⟨4, [Tr.av (.mk kd' nm' t' ks')]⟩), (some b1, ⟨4, [Tr.av (.mk kd nm t ks)]⟩)] ?_ (fun hB => ?_)
          · skip
            refine AWP.seq ?_
            refine AWP.region ?_
            refine Y (Yields.load_ptr_agg (j := 1) kd25 rfl rfl rfl rfl) rfl ?_
            refine AOps.callro (binds_AF kd nm t ks) rfl rfl rfl ?_
            refine Y (Yields.not rfl) rfl ?_
            refine Y (mv rfl) rfl ?_
            refine AOps.split 63 rfl (fun b1 => ?_) (fun b1 => ?_)
            · skip
              refine AOps.on rfl rfl ?_
              refine Y (Yields.fieldAddr_ptr fo25_2 rfl) rfl ?_
              refine AOps.on rfl rfl ?_
              refine Y (Yields.load_ptr_field (j := 1) kd9 rfl rfl rfl rfl rfl rfl rfl) rfl ?_
              refine AOps.on rfl rfl ?_
              refine Y (Yields.fieldAddr_ptr fo25_2 rfl) rfl ?_
              refine AOps.on rfl rfl ?_
              refine Y (Yields.load_ptr_field (j := 0) kd9 rfl rfl rfl rfl rfl rfl rfl) rfl ?_
              refine AOps.on rfl rfl ?_
              refine Y (bn rfl rfl BinR.sneq rfl) rfl ?_
              refine Y (Yields.pick_true rfl rfl) rfl ?_
              refine AOps.nil ?_
              refine AWP.condT rfl (fun c4 => ?_) (fun c4 => ?_)
              · replace c4 := of_decide_eq_true c4
                refine AWP.seq ?_
                refine AWP.region ?_
                have hb : ¬ (kd = 11 ∨ kd = 12) := by simpa [bindsB] using b1
                refine Y (ass rfl) rfl ?_
                refine AOps.nil ?_
                refine AWP.ret ⟨.inl rfl, ?_⟩
                exact RetIs.oneV rfl rfl (by (rw [likeT, if_neg hne, if_neg h3, if_neg hb, decide_eq_false c4]) <;> rfl)
              · replace c4 := Decidable.of_not_not (of_decide_eq_false c4)
                refine AWP.skip ?_
                exact ⟨.inr c4, Leads.rows 0 ⟨rfl, rfl, rfl, rfl, trivial⟩⟩
            · skip
              refine AOps.off' rfl rfl rfl rfl ?_
              refine AOps.off' rfl rfl rfl rfl ?_
              refine AOps.off' rfl rfl rfl rfl ?_
              refine AOps.off' rfl rfl rfl rfl ?_
              refine AOps.off' rfl rfl rfl rfl ?_
              refine Y (Yields.pick_false rfl rfl) rfl ?_
              refine AOps.nil ?_
              refine AWP.cond rfl (fun h => absurd h (by decide)) (fun _ => ?_)
              refine AWP.skip ?_
              exact ⟨.inl (by simpa using b1), Leads.rows 0 ⟨rfl, rfl, rfl, rfl, trivial⟩⟩
          · skip
            refine AWP.seq ?_
            refine AWP.seq ?_
            refine AWP.region ?_
            have hL : likeT (.mk kd nm t ks) (.mk kd' nm' t' ks') us vs = likeK ks ks' us vs (innerL (bindsB kd) 1 us t) (innerL (bindsB kd) 1 vs t') 0 := by
               rw [likeT, if_neg hne, if_neg h3]
               by_cases hb : kd = 11 ∨ kd = 12
               · have : bindsB kd = true := by simpa [bindsB] using hb
                 rw [if_pos hb, this]; rfl
               · have hb' : bindsB kd = false := by simpa [bindsB] using hb
                 rw [if_neg hb, hb', decide_eq_true (hB.resolve_left (by rw [hb']; simp))]; rfl
            refine Y (Yields.fieldAddr_ptr fo25_3 rfl) rfl ?_
            refine Y (Yields.load_ptr_field (j := 1) kd23 rfl rfl rfl rfl rfl rfl rfl) rfl ?_
            refine Y (Yields.len_ro sl23 rfl) rfl ?_
            refine Y (mv rfl) rfl ?_
            refine AOps.nil ?_
            refine AWP.block ?_
            refine AWP.loopV (α := Nat) (fun i : Nat => ⟨[(2, .ro 1 (strs us) [] false), (3, .ro 1 (strs vs) [] false), (4, .ptr (some b1) 0 0 4), (5, .ptr (some b2) 0 0 4), (72, int (Tr.avs ks).length), (73, int i)], [(some b2, ⟨4, [Tr.av (.mk kd' nm' t' ks')]⟩), (some b1, ⟨4, [Tr.av (.mk kd nm t ks)]⟩)]⟩) (fun i : Nat => i ≤ ks.length ∧ likeK (ks.drop i) (ks'.drop i) us vs (innerL (bindsB kd) 1 us t) (innerL (bindsB kd) 1 vs t') i = likeK ks ks' us vs (innerL (bindsB kd) 1 us t) (innerL (bindsB kd) 1 vs t') 0) (fun i : Nat => ks.length - i) (0) ?_ ?_ ?_
            · exact Leads.rows 0 ⟨rfl, rfl, rfl, rfl, rfl, rfl, trivial⟩
            · show 0 ≤ ks.length ∧ likeK (ks.drop 0) (ks'.drop 0) us vs (innerL (bindsB kd) 1 us t) (innerL (bindsB kd) 1 vs t') 0 = likeK ks ks' us vs (innerL (bindsB kd) 1 us t) (innerL (bindsB kd) 1 vs t') 0
              exact ⟨Nat.zero_le _, rfl⟩
            · rintro i hinv
              refine AWP.seq ?_
              refine AWP.region ?_
              obtain ⟨hi, hp⟩ := hinv
              refine Y (bn rfl rfl BinR.lss rfl) rfl ?_
              refine AOps.nil ?_
              refine AWP.seq ?_
              refine AWP.condT rfl (fun g => ?_) (fun g => ?_)
              · replace g := of_decide_eq_true g
                obtain ⟨x, hx, hdx⟩ := drop_at (l := ks) (i := i) (by omega)
                obtain ⟨y, hy, hdy⟩ := drop_at (l := ks') (i := i) (by omega)
                rw [hdx, hdy, likeK] at hp
                have hi1 : innerL (bindsB kd) 1 us t = if bindsB kd = true then us ++ [t] else us := by simp [innerL]
                have hi2 : innerL (bindsB kd) 1 vs t' = if bindsB kd = true then vs ++ [t'] else vs := by simp [innerL]
                refine AWP.skip ?_
                refine AWP.seq ?_
                refine AWP.block ?_
                refine AWP.seq ?_
                refine AWP.region ?_
                refine Y (mv rfl) rfl ?_
                refine Y (ass rfl) rfl ?_
                refine AOps.nil ?_
                refine AWP.seq ?_
                refine AWP.region ?_
                refine Y (mv rfl) rfl ?_
                refine Y (mv rfl) rfl ?_
                refine Y (ass rfl) rfl ?_
                refine Y (ass rfl) rfl ?_
                refine AOps.nil ?_
                refine AWP.midT [(2, .ro 1 (strs us) [] false), (3, .ro 1 (strs vs) [] false), (4, .ptr (some b1) 0 0 4), (5, .ptr (some b2) 0 0 4), (11, int i), (12, .ro 1 (strs (if i = 1 then innerL (bindsB kd) 1 us t else us)) [] false), (13, .ro 1 (strs (if i = 1 then innerL (bindsB kd) 1 vs t' else vs)) [] false), (72, int (Tr.avs ks).length), (73, int i)] [(some b2, ⟨4, [Tr.av (.mk kd' nm' t' ks')]⟩), (some b1, ⟨4, [Tr.av (.mk kd nm t ks)]⟩)] ?_ ?_
                · skip
                  refine AWP.seq ?_
                  refine AWP.region ?_
                  refine Y (Yields.load_ptr_agg (j := 1) kd25 rfl rfl rfl rfl) rfl ?_
                  refine AOps.callro (binds_AF kd nm t ks) rfl rfl rfl ?_
                  refine Y (mv rfl) rfl ?_
                  refine AOps.split 80 rfl (fun b1 => ?_) (fun b1 => ?_)
                  · skip
                    refine AOps.on rfl rfl ?_
                    refine Y (mv rfl) rfl ?_
                    refine AOps.on rfl rfl ?_
                    refine Y (bn rfl rfl BinR.eql rfl) rfl ?_
                    refine Y (Yields.pick_true rfl rfl) rfl ?_
                    refine AOps.nil ?_
                    refine AWP.condT rfl (fun e1 => ?_) (fun e1 => ?_)
                    · replace e1 := eq_of_beq e1
                      have e1 : i = 1 := by omega
                      refine AWP.prune (tm' := [(2, _), (3, _), (4, _), (5, _), (72, _), (73, _), (74, _), (11, _), (12, _), (13, _), (83, _)]) ⟨rfl, rfl, rfl, rfl, rfl, rfl, rfl, rfl, rfl, rfl, rfl, trivial⟩ ?_
                      refine AWP.drawnU [(4, 5), (5, 12), (10, 11), (11, 13)] mixed rfl rfl rfl ?_
                      refine DU (tm' := [(2, _)]) ⟨rfl, trivial⟩ rfl (DStep.yields (mv rfl)) rfl ?_
                      refine DU (tm' := [(84, _)]) ⟨rfl, trivial⟩ rfl (DStep.callro (clip_AF us [] false) rfl rfl) rfl ?_
                      refine DU (tm' := [(4, _)]) ⟨rfl, trivial⟩ rfl (DStep.yields (Yields.fieldAddr_ptr fo25_2 rfl)) rfl ?_
                      refine DU (tm' := [(86, _)]) ⟨rfl, trivial⟩ rfl (DStep.yields (Yields.load_ptr_field (j := 1) kd9 rfl rfl rfl rfl rfl rfl rfl)) rfl ?_
                      refine DUs (tm' := [(87, _)]) ⟨rfl, trivial⟩ rfl rfl (DStepU.buildSlice sl35 z9 rfl rfl rfl rfl) rfl ?_
                      refine DUs (tm' := [(85, _)]) ⟨rfl, trivial⟩ rfl rfl (DStepU.keep (View.own (viewL_refl rfl) (viewL_refl rfl)) (DStepU.appendNew sl35 z9 rfl rfl rfl rfl (src_ro rfl) (by simp) (by simp [strs]; omega) (by simp [strs]; omega))) rfl ?_
                      refine DU (tm' := [(3, _)]) ⟨rfl, trivial⟩ rfl (DStep.yields (mv rfl)) rfl ?_
                      refine DU (tm' := [(90, _)]) ⟨rfl, trivial⟩ rfl (DStep.callro (clip_AF vs [] false) rfl rfl) rfl ?_
                      refine DU (tm' := [(5, _)]) ⟨rfl, trivial⟩ rfl (DStep.yields (Yields.fieldAddr_ptr fo25_2 rfl)) rfl ?_
                      refine DU (tm' := [(92, _)]) ⟨rfl, trivial⟩ rfl (DStep.yields (Yields.load_ptr_field (j := 0) kd9 rfl rfl rfl rfl rfl rfl rfl)) rfl ?_
                      refine DUs (tm' := [(93, _)]) ⟨rfl, trivial⟩ rfl rfl (DStepU.buildSlice sl35 z9 rfl rfl rfl rfl) rfl ?_
                      refine DUs (tm' := [(91, _)]) ⟨rfl, trivial⟩ rfl rfl (DStepU.keep (View.own (viewL_refl rfl) (viewL_refl rfl)) (DStepU.appendNew sl35 z9 rfl rfl rfl rfl (src_ro rfl) (by simp) (by simp [strs]; omega) (by simp [strs]; omega))) rfl ?_
                      refine DUs (tm' := []) trivial rfl rfl (DStepU.keep (View.own (xs' := strs (us ++ [t])) (viewL_app' us t) (viewL_refl rfl)) (DStep.u (DStep.yields (ass rfl)))) rfl ?_
                      refine DUs (tm' := []) trivial rfl rfl (DStepU.keep (View.own (xs' := strs (vs ++ [t'])) (viewL_app' vs t') (viewL_refl rfl)) (DStep.u (DStep.yields (ass rfl)))) rfl ?_
                      refine DOpsU.nil ?_
                      have hI1 : us ++ [t] = (if i = 1 then innerL (bindsB kd) 1 us t else us) := by rw [if_pos e1, hi1, if_pos b1]
                      have hI2 : vs ++ [t'] = (if i = 1 then innerL (bindsB kd) 1 vs t' else vs) := by rw [if_pos e1, hi2, if_pos b1]
                      exact Leads.rows 0 ⟨rfl, rfl, rfl, rfl, rfl, (look_eq rfl (congrArg (fun l => AV.ro 1 (strs l) [] false) (hI1))), (look_eq rfl (congrArg (fun l => AV.ro 1 (strs l) [] false) (hI2))), rfl, rfl, trivial⟩
                    · replace e1 := ne_of_beq_false e1
                      refine AWP.skip ?_
                      exact Leads.rows 0 ⟨rfl, rfl, rfl, rfl, rfl, (look_eq rfl (congrArg (fun l => AV.ro 1 (strs l) [] false) ((if_neg (by omega : ¬ i = 1)).symm))), (look_eq rfl (congrArg (fun l => AV.ro 1 (strs l) [] false) ((if_neg (by omega : ¬ i = 1)).symm))), rfl, rfl, trivial⟩
                  · skip
                    refine AOps.off' rfl rfl rfl rfl ?_
                    refine AOps.off' rfl rfl rfl rfl ?_
                    refine Y (Yields.pick_false rfl rfl) rfl ?_
                    refine AOps.nil ?_
                    refine AWP.cond rfl (fun h => absurd h (by decide)) (fun _ => ?_)
                    refine AWP.skip ?_
                    exact Leads.rows 0 ⟨rfl, rfl, rfl, rfl, rfl, (look_eq rfl (congrArg (fun l => AV.ro 1 (strs l) [] false) (by rw [hi1, b1]; simp))), (look_eq rfl (congrArg (fun l => AV.ro 1 (strs l) [] false) (by rw [hi2, b1]; simp))), rfl, rfl, trivial⟩
                · skip
                  refine AWP.seq ?_
                  have hlen1 : ((if i = 1 then innerL (bindsB kd) 1 us t else us).length : Int) + (d - 1) ≤ 100 := by rw [hi1]; split <;> (try split) <;> (try simp) <;> omega
                  have hlen2 : (if i = 1 then innerL (bindsB kd) 1 us t else us).length = (if i = 1 then innerL (bindsB kd) 1 vs t' else vs).length := by rw [hi1, hi2]; split <;> (try split) <;> (try simp) <;> omega
                  refine AWP.prune (tm' := [(2, _), (3, _), (4, _), (5, _), (11, _), (12, _), (13, _), (72, _), (73, _)]) ⟨rfl, rfl, rfl, rfl, rfl, rfl, rfl, rfl, rfl, trivial⟩ ?_
                  refine AWP.drawn mixed rfl rfl ?_
                  refine D (tm' := [(4, _)]) ⟨rfl, trivial⟩ (DStep.yields (Yields.fieldAddr_ptr fo25_3 rfl)) rfl ?_
                  refine D (tm' := [(96, _)]) ⟨rfl, trivial⟩ (DStep.yields (Yields.load_ptr_field (j := 1) kd23 rfl rfl rfl rfl rfl rfl rfl)) rfl ?_
                  refine D (tm' := [(11, _)]) ⟨rfl, trivial⟩ (DStep.yields (mv rfl)) rfl ?_
                  refine D (tm' := [(97, _), (98, _)]) ⟨rfl, rfl, trivial⟩ (DStep.yields (Yields.idx_roN sl23 rfl rfl rfl rfl (by omega))) rfl ?_
                  refine D (tm' := [(99, _)]) ⟨rfl, trivial⟩ (DStep.yields (Yields.load_rop_aggV kd25 rfl (Tr.avs_at hx) (Tr.av_agg x))) rfl ?_
                  refine D (tm' := [(5, _)]) ⟨rfl, trivial⟩ (DStep.yields (Yields.fieldAddr_ptr fo25_3 rfl)) rfl ?_
                  refine D (tm' := [(101, _)]) ⟨rfl, trivial⟩ (DStep.yields (Yields.load_ptr_field (j := 0) kd23 rfl rfl rfl rfl rfl rfl rfl)) rfl ?_
                  refine D (tm' := [(11, _)]) ⟨rfl, trivial⟩ (DStep.yields (mv rfl)) rfl ?_
                  refine D (tm' := [(102, _), (103, _)]) ⟨rfl, rfl, trivial⟩ (DStep.yields (Yields.idx_roN sl23 rfl rfl rfl rfl (by omega))) rfl ?_
                  refine D (tm' := [(104, _)]) ⟨rfl, trivial⟩ (DStep.yields (Yields.load_rop_aggV kd25 rfl (Tr.avs_at hy) (Tr.av_agg y))) rfl ?_
                  refine D (tm' := [(12, _)]) ⟨rfl, trivial⟩ (DStep.yields (mv rfl)) rfl ?_
                  refine D (tm' := [(13, _)]) ⟨rfl, trivial⟩ (DStep.yields (mv rfl)) rfl ?_
                  refine D (tm' := [(100, _), (105, _), (106, _), (107, _)]) ⟨rfl, rfl, rfl, rfl, trivial⟩ (DStep.callro (ih x (List.mem_of_getElem? hx) y (if i = 1 then innerL (bindsB kd) 1 us t else us) (if i = 1 then innerL (bindsB kd) 1 vs t' else vs) (d - 1) (Tr.bnds_get hk3 hx) (Tr.bnds_get hk3' hy) (validSs_get hvs hx) (validSs_get hvs' hy) (by omega) hlen1 hlen2) rfl rfl) rfl ?_
                  refine D (tm' := [(108, _)]) ⟨rfl, trivial⟩ (DStep.yields (Yields.not rfl)) rfl ?_
                  refine DOps.nil ?_
                  refine AWP.condT rfl (fun g2 => ?_) (fun g2 => ?_)
                  · skip
                    refine AWP.seq ?_
                    refine AWP.region ?_
                    have g2 : likeT x y (if i = 1 then innerL (bindsB kd) 1 us t else us) (if i = 1 then innerL (bindsB kd) 1 vs t' else vs) = false := by simpa using g2
                    refine Y (ass rfl) rfl ?_
                    refine AOps.nil ?_
                    refine AWP.ret ⟨.inl rfl, ?_⟩
                    exact RetIs.oneV rfl rfl (by (rw [hL, ← hp, g2]; simp) <;> rfl)
                  · skip
                    have g2 : likeT x y (if i = 1 then innerL (bindsB kd) 1 us t else us) (if i = 1 then innerL (bindsB kd) 1 vs t' else vs) = true := by simpa using g2
                    refine AWP.skip ?_
                    refine AWP.region ?_
                    refine Y (bn rfl rfl (BinR.addI (by omega) (by omega)) rfl) rfl ?_
                    refine Y (mv rfl) rfl ?_
                    refine AOps.nil ?_
                    refine ⟨i + 1, ?_, ?_, ?_⟩
                    · show ks.length - (i + 1) < ks.length - i
                      omega
                    · show (i + 1) ≤ ks.length ∧ likeK (ks.drop (i + 1)) (ks'.drop (i + 1)) us vs (innerL (bindsB kd) 1 us t) (innerL (bindsB kd) 1 vs t') (i + 1) = likeK ks ks' us vs (innerL (bindsB kd) 1 us t) (innerL (bindsB kd) 1 vs t') 0
                      exact ⟨by omega, by rw [← hp, g2, Bool.true_and]⟩
                    · exact Leads.rows 0 ⟨rfl, rfl, rfl, rfl, rfl, rfl, trivial⟩
              · replace g := of_decide_eq_false g
                rw [List.drop_eq_nil_of_le (by omega), List.drop_eq_nil_of_le (by omega), likeK] at hp
                refine AWP.exit ?_
                refine AWP.seq ?_
                refine AWP.region ?_
                refine Y (ass rfl) rfl ?_
                refine AOps.nil ?_
                refine AWP.ret ⟨.inl rfl, ?_⟩
                exact RetIs.oneV rfl rfl (by (rw [hL, ← hp]) <;> rfl)
theorem sExprLike_AF (k k' : Tr) (hk : k.bnd 1000000) (hz : sizeT k ≤ 2000000) (hk' : k'.bnd 1000000) (hz' : sizeT k' ≤ 2000000) : Fn 35 [k.av, k'.av] (bool (okE k && (okE k' && likeT k k' [] []))) := by
  obtain ⟨kd, nm, t, ks⟩ := k
  obtain ⟨kd', nm', t', ks'⟩ := k'
  refine AF.intro Try.func35 nm35 rfl rfl rfl rfl fun w0 ok0 => ?_
  refine AWP.seq ?_
  refine AWP.region ?_
  refine AOps.box rfl rfl rfl rfl fun b1 => ?_
  refine AOps.box rfl rfl rfl rfl fun b2 => ?_
  refine Y (ass rfl) rfl ?_
  refine AOps.nil ?_
  refine AWP.seq ?_
  refine AWP.region ?_
  refine Y (Yields.load_ptr_agg (j := 1) kd25 rfl rfl rfl rfl) rfl ?_
  refine AOps.callro (sExprOk_AF (.mk kd nm t ks) hk hz) rfl rfl rfl ?_
  refine Y (mv rfl) rfl ?_
  refine AOps.split 7 rfl (fun h1 => ?_) (fun h1 => ?_)
  ·
   skip
   refine AOps.on rfl rfl ?_
   refine Y (Yields.load_ptr_agg (j := 0) kd25 rfl rfl rfl rfl) rfl ?_
   refine AOps.on rfl rfl ?_
   refine AOps.callro (sExprOk_AF (.mk kd' nm' t' ks') hk' hz') rfl rfl rfl ?_
   refine Y (Yields.pick_true rfl rfl) rfl ?_
   refine Y (mv rfl) rfl ?_
   refine AOps.split 11 rfl (fun h2 => ?_) (fun h2 => ?_)
   ·
    skip
    refine AOps.on rfl rfl ?_
    refine Y (Yields.load_ptr_agg (j := 1) kd25 rfl rfl rfl rfl) rfl ?_
    refine AOps.on rfl rfl ?_
    refine Y (Yields.load_ptr_agg (j := 0) kd25 rfl rfl rfl rfl) rfl ?_
    refine AOps.on rfl rfl ?_
    refine AOps.callw (slike_AF (.mk kd nm t ks) (.mk kd' nm' t' ks') [] [] 9 hk hk' (by simp [okE] at h1; exact h1.1) (by simp [okE] at h2; exact h2.1) (by omega) (by simp) rfl) rfl rfl ⟨Wk.refl _, Wk.refl _, Wk.nil, Wk.nil, trivial⟩ rfl ?_
    refine Y (Yields.pick_true rfl rfl) rfl ?_
    refine Y (ass rfl) rfl ?_
    refine AOps.nil ?_
    refine AWP.ret ⟨.inl rfl, ?_⟩
    exact RetIs.oneV rfl rfl (by (rw [h1, h2]; rfl) <;> rfl)
   ·
    skip
    refine AOps.off' rfl rfl rfl rfl ?_
    refine AOps.off' rfl rfl rfl rfl ?_
    refine AOps.off' rfl rfl rfl rfl ?_
    refine Y (Yields.pick_false rfl rfl) rfl ?_
    refine Y (ass rfl) rfl ?_
    refine AOps.nil ?_
    refine AWP.ret ⟨.inl rfl, ?_⟩
    exact RetIs.oneV rfl rfl (by (rw [h1, h2]; rfl) <;> rfl)
  ·
   skip
   refine AOps.off' rfl rfl rfl rfl ?_
   refine AOps.off' rfl rfl rfl rfl ?_
   refine Y (Yields.pick_false rfl rfl) rfl ?_
   refine Y (mv rfl) rfl ?_
   refine AOps.off' rfl rfl rfl rfl ?_
   refine AOps.off' rfl rfl rfl rfl ?_
   refine AOps.off' rfl rfl rfl rfl ?_
   refine Y (Yields.pick_false rfl rfl) rfl ?_
   refine Y (ass rfl) rfl ?_
   refine AOps.nil ?_
   refine AWP.ret ⟨.inl rfl, ?_⟩
   exact RetIs.oneV rfl rfl (by (rw [h1]; rfl) <;> rfl)
theorem iExprLike_AF (k k' : Tr) (hk : k.bnd 1000000) (hk' : k'.bnd 1000000) : Fn 34 [k.av, k'.av] (bool (okE k && (okE k' && likeT k k' [] []))) := by
  obtain ⟨kd, nm, t, ks⟩ := k
  obtain ⟨kd', nm', t', ks'⟩ := k'
  refine AF.intro Try.func34 nm34 rfl rfl rfl rfl fun w0 ok0 => ?_
  refine AWP.seq ?_
  refine AWP.region ?_
  refine AOps.box rfl rfl rfl rfl fun b1 => ?_
  refine AOps.box rfl rfl rfl rfl fun b2 => ?_
  refine Y (ass rfl) rfl ?_
  refine AOps.nil ?_
  refine AWP.seq ?_
  refine AWP.region ?_
  refine Y (Yields.load_ptr_agg (j := 1) kd25 rfl rfl rfl rfl) rfl ?_
  refine AOps.callro (iExprOk_AF' (.mk kd nm t ks) hk) rfl rfl rfl ?_
  refine Y (mv rfl) rfl ?_
  refine AOps.split 7 rfl (fun h1 => ?_) (fun h1 => ?_)
  ·
   skip
   refine AOps.on rfl rfl ?_
   refine Y (Yields.load_ptr_agg (j := 0) kd25 rfl rfl rfl rfl) rfl ?_
   refine AOps.on rfl rfl ?_
   refine AOps.callro (iExprOk_AF' (.mk kd' nm' t' ks') hk') rfl rfl rfl ?_
   refine Y (Yields.pick_true rfl rfl) rfl ?_
   refine Y (mv rfl) rfl ?_
   refine AOps.split 11 rfl (fun h2 => ?_) (fun h2 => ?_)
   ·
    skip
    refine AOps.on rfl rfl ?_
    refine Y (Yields.load_ptr_agg (j := 1) kd25 rfl rfl rfl rfl) rfl ?_
    refine AOps.on rfl rfl ?_
    refine Y (Yields.load_ptr_agg (j := 0) kd25 rfl rfl rfl rfl) rfl ?_
    refine AOps.on rfl rfl ?_
    refine AOps.callw (ialike_AF (.mk kd nm t ks) (.mk kd' nm' t' ks') [] [] 9 hk hk' (by simp [okE] at h1; exact h1.1) (by simp [okE] at h2; exact h2.1) (by omega) (by simp) rfl) rfl rfl ⟨Wk.refl _, Wk.refl _, Wk.nil, Wk.nil, trivial⟩ rfl ?_
    refine Y (Yields.pick_true rfl rfl) rfl ?_
    refine Y (ass rfl) rfl ?_
    refine AOps.nil ?_
    refine AWP.ret ⟨.inl rfl, ?_⟩
    exact RetIs.oneV rfl rfl (by (rw [h1, h2]; rfl) <;> rfl)
   ·
    skip
    refine AOps.off' rfl rfl rfl rfl ?_
    refine AOps.off' rfl rfl rfl rfl ?_
    refine AOps.off' rfl rfl rfl rfl ?_
    refine Y (Yields.pick_false rfl rfl) rfl ?_
    refine Y (ass rfl) rfl ?_
    refine AOps.nil ?_
    refine AWP.ret ⟨.inl rfl, ?_⟩
    exact RetIs.oneV rfl rfl (by (rw [h1, h2]; rfl) <;> rfl)
  ·
   skip
   refine AOps.off' rfl rfl rfl rfl ?_
   refine AOps.off' rfl rfl rfl rfl ?_
   refine Y (Yields.pick_false rfl rfl) rfl ?_
   refine Y (mv rfl) rfl ?_
   refine AOps.off' rfl rfl rfl rfl ?_
   refine AOps.off' rfl rfl rfl rfl ?_
   refine AOps.off' rfl rfl rfl rfl ?_
   refine Y (Yields.pick_false rfl rfl) rfl ?_
   refine Y (ass rfl) rfl ?_
   refine AOps.nil ?_
   refine AWP.ret ⟨.inl rfl, ?_⟩
   exact RetIs.oneV rfl rfl (by (rw [h1]; rfl) <;> rfl)
end Go.Proofs.Yteieleejhbljfaa
