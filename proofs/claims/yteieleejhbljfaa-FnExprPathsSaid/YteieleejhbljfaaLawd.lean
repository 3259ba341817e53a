/- Laws of expressions, over what is drawn. -/
import Derived.Test.YteieleejhbljfaaDraw
namespace Go.Proofs.Yteieleejhbljfaa
open Go Go.Ax Go.Proofs
set_option linter.unusedVariables false
set_option linter.unusedSimpArgs false
set_option maxRecDepth 20000
theorem sameTexts_AF (l : List ByteArray) (hl : l.length ≤ 4000000) : Fn 48 [.ro 1 (strs l) [] false, .ro 1 (strs l) [] false] (bool true) := by
  have hlen := strs_length l
  refine AF.intro Try.func48 nm48 rfl rfl rfl rfl fun w0 ok0 => ?_
  refine AWP.seq ?_
  refine AWP.region ?_
  refine Y (ass rfl) rfl ?_
  refine AOps.nil ?_
  refine AWP.seq ?_
  refine AWP.seq ?_
  refine AWP.region ?_
  refine Y (mv rfl) rfl ?_
  refine Y (Yields.len_ro sl35 rfl) rfl ?_
  refine Y (mv rfl) rfl ?_
  refine Y (Yields.len_ro sl35 rfl) rfl ?_
  refine Y (bn rfl rfl BinR.neq rfl) rfl ?_
  refine AOps.nil ?_
  refine AWP.condT rfl (fun h => ?_) (fun h => ?_)
  · replace h := bne_iff_ne.1 h
    exact absurd rfl h
  · replace h := bne_eq_false_iff_eq.1 h
    refine AWP.skip ?_
    refine AWP.seq ?_
    refine AWP.seq ?_
    refine AWP.region ?_
    refine Y (ass rfl) rfl ?_
    refine AOps.nil ?_
    refine AWP.block ?_
    refine AWP.loopV (α := Nat) (fun i : Nat => ⟨[(0, .ro 1 (strs l) [] false), (1, .ro 1 (strs l) [] false), (5, int i)], []⟩) (fun i : Nat => i ≤ l.length) (fun i : Nat => l.length - i) (0) ?_ ?_ ?_
    · exact Leads.rows 0 ⟨rfl, rfl, rfl, trivial⟩
    · show 0 ≤ l.length
      exact Nat.zero_le _
    · rintro i hinv
      refine AWP.seq ?_
      refine AWP.seq ?_
      refine AWP.region ?_
      refine Y (mv rfl) rfl ?_
      refine Y (mv rfl) rfl ?_
      refine Y (Yields.len_ro sl35 rfl) rfl ?_
      refine Y (bn rfl rfl BinR.lss rfl) rfl ?_
      refine AOps.nil ?_
      refine AWP.condT rfl (fun g => ?_) (fun g => ?_)
      · replace g := of_decide_eq_true g
        obtain ⟨n, hn, _⟩ := drop_at (l := l) (i := i) (by omega)
        refine AWP.skip ?_
        refine AWP.seq ?_
        refine AWP.block ?_
        refine AWP.seq ?_
        refine AWP.prune (tm' := [(0, _), (1, _), (5, _), (14, _)]) ⟨rfl, rfl, rfl, rfl, trivial⟩ ?_
        refine AWP.drawn mixed rfl rfl ?_
        refine D (tm' := [(0, _)]) ⟨rfl, trivial⟩ (DStep.yields (mv rfl)) rfl ?_
        refine D (tm' := [(5, _)]) ⟨rfl, trivial⟩ (DStep.yields (mv rfl)) rfl ?_
        refine D (tm' := [(17, _), (18, _)]) ⟨rfl, rfl, trivial⟩ (DStep.yields (Yields.idx_roN sl35 rfl rfl rfl rfl (by omega))) rfl ?_
        refine D (tm' := [(19, _)]) ⟨rfl, trivial⟩ (DStep.yields (Yields.load_rop_one kd9 rfl (strs_at hn) rfl)) rfl ?_
        refine D (tm' := [(1, _)]) ⟨rfl, trivial⟩ (DStep.yields (mv rfl)) rfl ?_
        refine D (tm' := [(5, _)]) ⟨rfl, trivial⟩ (DStep.yields (mv rfl)) rfl ?_
        refine D (tm' := [(21, _), (22, _)]) ⟨rfl, rfl, trivial⟩ (DStep.yields (Yields.idx_roN sl35 rfl rfl rfl rfl (by omega))) rfl ?_
        refine D (tm' := [(23, _)]) ⟨rfl, trivial⟩ (DStep.yields (Yields.load_rop_one kd9 rfl (strs_at hn) rfl)) rfl ?_
        refine D (tm' := [(20, _), (24, _)]) ⟨rfl, rfl, trivial⟩ (DStep.yields (bn rfl rfl BinR.sneq rfl)) rfl ?_
        refine DOps.nil ?_
        refine AWP.condT rfl (fun g2 => ?_) (fun g2 => ?_)
        · replace g2 := of_decide_eq_true g2
          exact absurd rfl g2
        · replace g2 := Decidable.of_not_not (of_decide_eq_false g2)
          refine AWP.skip ?_
          refine AWP.region ?_
          refine Y (mv rfl) rfl ?_
          refine Y (bn rfl rfl (BinR.addI (by omega) (by omega)) rfl) rfl ?_
          refine Y (ass rfl) rfl ?_
          refine AOps.nil ?_
          refine ⟨i + 1, ?_, ?_, ?_⟩
          · show l.length - (i + 1) < l.length - i
            omega
          · show (i + 1) ≤ l.length
            show i + 1 ≤ l.length; omega
          · exact Leads.rows 0 ⟨rfl, rfl, rfl, trivial⟩
      · replace g := of_decide_eq_false g
        refine AWP.exit ?_
        refine AWP.seq ?_
        refine AWP.region ?_
        refine Y (ass rfl) rfl ?_
        refine AOps.nil ?_
        refine AWP.ret ⟨.inl rfl, ?_⟩
        exact RetIs.oneV rfl rfl (by (rfl) <;> rfl)
theorem sSameTexts_AF (l : List ByteArray) (hl : l.length ≤ 4000000) : Fn 21 [.ro 1 (strs l) [] false, .ro 1 (strs l) [] false] (bool true) := by
  refine AF.intro Try.func21 nm21 rfl rfl rfl rfl fun w0 ok0 => ?_
  refine AWP.seq ?_
  refine AWP.region ?_
  refine Y (ass rfl) rfl ?_
  refine AOps.nil ?_
  refine AWP.seq ?_
  refine AWP.region ?_
  refine Y (mv rfl) rfl ?_
  refine Y (mv rfl) rfl ?_
  refine AOps.callro (sameTexts_AF l hl) rfl rfl rfl ?_
  refine Y (ass rfl) rfl ?_
  refine AOps.nil ?_
  refine AWP.ret ⟨.inl rfl, ?_⟩
  exact RetIs.oneV rfl rfl (by (rfl) <;> rfl)
theorem sSameInts_AF (l : List Int) (hl : l.length ≤ 4000000) : Fn 43 [.ro 1 (ints l) [] false, .ro 1 (ints l) [] false] (bool true) := by
  have hlen := ints_length l
  refine AF.intro Try.func43 nm43 rfl rfl rfl rfl fun w0 ok0 => ?_
  refine AWP.seq ?_
  refine AWP.region ?_
  refine Y (ass rfl) rfl ?_
  refine AOps.nil ?_
  refine AWP.seq ?_
  refine AWP.seq ?_
  refine AWP.region ?_
  refine Y (mv rfl) rfl ?_
  refine Y (Yields.len_ro sl32 rfl) rfl ?_
  refine Y (mv rfl) rfl ?_
  refine Y (Yields.len_ro sl32 rfl) rfl ?_
  refine Y (bn rfl rfl BinR.neq rfl) rfl ?_
  refine AOps.nil ?_
  refine AWP.condT rfl (fun h => ?_) (fun h => ?_)
  · replace h := bne_iff_ne.1 h
    exact absurd rfl h
  · replace h := bne_eq_false_iff_eq.1 h
    refine AWP.skip ?_
    refine AWP.seq ?_
    refine AWP.seq ?_
    refine AWP.region ?_
    refine Y (ass rfl) rfl ?_
    refine AOps.nil ?_
    refine AWP.block ?_
    refine AWP.loopV (α := Nat) (fun i : Nat => ⟨[(0, .ro 1 (ints l) [] false), (1, .ro 1 (ints l) [] false), (5, int i)], []⟩) (fun i : Nat => i ≤ l.length) (fun i : Nat => l.length - i) (0) ?_ ?_ ?_
    · exact Leads.rows 0 ⟨rfl, rfl, rfl, trivial⟩
    · show 0 ≤ l.length
      exact Nat.zero_le _
    · rintro i hinv
      refine AWP.seq ?_
      refine AWP.seq ?_
      refine AWP.region ?_
      refine Y (mv rfl) rfl ?_
      refine Y (mv rfl) rfl ?_
      refine Y (Yields.len_ro sl32 rfl) rfl ?_
      refine Y (bn rfl rfl BinR.lss rfl) rfl ?_
      refine AOps.nil ?_
      refine AWP.condT rfl (fun g => ?_) (fun g => ?_)
      · replace g := of_decide_eq_true g
        obtain ⟨n, hn, _⟩ := drop_at (l := l) (i := i) (by omega)
        refine AWP.skip ?_
        refine AWP.seq ?_
        refine AWP.block ?_
        refine AWP.seq ?_
        refine AWP.prune (tm' := [(0, _), (1, _), (5, _), (14, _)]) ⟨rfl, rfl, rfl, rfl, trivial⟩ ?_
        refine AWP.drawn mixed rfl rfl ?_
        refine D (tm' := [(0, _)]) ⟨rfl, trivial⟩ (DStep.yields (mv rfl)) rfl ?_
        refine D (tm' := [(5, _)]) ⟨rfl, trivial⟩ (DStep.yields (mv rfl)) rfl ?_
        refine D (tm' := [(17, _), (18, _)]) ⟨rfl, rfl, trivial⟩ (DStep.yields (Yields.idx_roN sl32 rfl rfl rfl rfl (by omega))) rfl ?_
        refine D (tm' := [(19, _)]) ⟨rfl, trivial⟩ (DStep.yields (Yields.load_rop_one kd3 rfl (ints_at hn) rfl)) rfl ?_
        refine D (tm' := [(1, _)]) ⟨rfl, trivial⟩ (DStep.yields (mv rfl)) rfl ?_
        refine D (tm' := [(5, _)]) ⟨rfl, trivial⟩ (DStep.yields (mv rfl)) rfl ?_
        refine D (tm' := [(21, _), (22, _)]) ⟨rfl, rfl, trivial⟩ (DStep.yields (Yields.idx_roN sl32 rfl rfl rfl rfl (by omega))) rfl ?_
        refine D (tm' := [(23, _)]) ⟨rfl, trivial⟩ (DStep.yields (Yields.load_rop_one kd3 rfl (ints_at hn) rfl)) rfl ?_
        refine D (tm' := [(20, _), (24, _)]) ⟨rfl, rfl, trivial⟩ (DStep.yields (bn rfl rfl BinR.neq rfl)) rfl ?_
        refine DOps.nil ?_
        refine AWP.condT rfl (fun g2 => ?_) (fun g2 => ?_)
        · replace g2 := bne_iff_ne.1 g2
          exact absurd rfl g2
        · replace g2 := bne_eq_false_iff_eq.1 g2
          refine AWP.skip ?_
          refine AWP.region ?_
          refine Y (mv rfl) rfl ?_
          refine Y (bn rfl rfl (BinR.addI (by omega) (by omega)) rfl) rfl ?_
          refine Y (ass rfl) rfl ?_
          refine AOps.nil ?_
          refine ⟨i + 1, ?_, ?_, ?_⟩
          · show l.length - (i + 1) < l.length - i
            omega
          · show (i + 1) ≤ l.length
            show i + 1 ≤ l.length; omega
          · exact Leads.rows 0 ⟨rfl, rfl, rfl, trivial⟩
      · replace g := of_decide_eq_false g
        refine AWP.exit ?_
        refine AWP.seq ?_
        refine AWP.region ?_
        refine Y (ass rfl) rfl ?_
        refine AOps.nil ?_
        refine AWP.ret ⟨.inl rfl, ?_⟩
        exact RetIs.oneV rfl rfl (by (rfl) <;> rfl)
theorem sSameRows_AF (L : List (List Int)) (hl : L.length ≤ 4000000) (hs : ∀ p ∈ L, p.length ≤ 4000000) : Fn 16 [.ro 1 (rowsR L) [] false, .ro 1 (rowsR L) [] false] (bool true) := by
  have hlr := rowsR_length L
  refine AF.intro Try.func16 nm16 rfl rfl rfl rfl fun w0 ok0 => ?_
  refine AWP.seq ?_
  refine AWP.region ?_
  refine Y (ass rfl) rfl ?_
  refine AOps.nil ?_
  refine AWP.seq ?_
  refine AWP.seq ?_
  refine AWP.region ?_
  refine Y (mv rfl) rfl ?_
  refine Y (Yields.len_ro sl28 rfl) rfl ?_
  refine Y (mv rfl) rfl ?_
  refine Y (Yields.len_ro sl28 rfl) rfl ?_
  refine Y (bn rfl rfl BinR.neq rfl) rfl ?_
  refine AOps.nil ?_
  refine AWP.condT rfl (fun h => ?_) (fun h => ?_)
  · replace h := bne_iff_ne.1 h
    exact absurd rfl h
  · replace h := bne_eq_false_iff_eq.1 h
    refine AWP.skip ?_
    refine AWP.seq ?_
    refine AWP.seq ?_
    refine AWP.region ?_
    refine Y (ass rfl) rfl ?_
    refine AOps.nil ?_
    refine AWP.block ?_
    refine AWP.loopV (α := Nat) (fun i : Nat => ⟨[(0, .ro 1 (rowsR L) [] false), (1, .ro 1 (rowsR L) [] false), (5, int i)], []⟩) (fun i : Nat => i ≤ L.length) (fun i : Nat => L.length - i) (0) ?_ ?_ ?_
    · exact Leads.rows 0 ⟨rfl, rfl, rfl, trivial⟩
    · show 0 ≤ L.length
      exact Nat.zero_le _
    · rintro i hinv
      refine AWP.seq ?_
      refine AWP.seq ?_
      refine AWP.region ?_
      have hi := hinv
      refine Y (mv rfl) rfl ?_
      refine Y (mv rfl) rfl ?_
      refine Y (Yields.len_ro sl28 rfl) rfl ?_
      refine Y (bn rfl rfl BinR.lss rfl) rfl ?_
      refine AOps.nil ?_
      refine AWP.condT rfl (fun g => ?_) (fun g => ?_)
      · replace g := of_decide_eq_true g
        obtain ⟨x, hx, hdx⟩ := drop_at (l := L) (i := i) (by omega)
        refine AWP.skip ?_
        refine AWP.seq ?_
        refine AWP.block ?_
        refine AWP.seq ?_
        refine AWP.prune (tm' := [(0, _), (1, _), (5, _), (14, _)]) ⟨rfl, rfl, rfl, rfl, trivial⟩ ?_
        refine AWP.drawn mixed rfl rfl ?_
        refine D (tm' := [(0, _)]) ⟨rfl, trivial⟩ (DStep.yields (mv rfl)) rfl ?_
        refine D (tm' := [(5, _)]) ⟨rfl, trivial⟩ (DStep.yields (mv rfl)) rfl ?_
        refine D (tm' := [(17, _), (18, _)]) ⟨rfl, rfl, trivial⟩ (DStep.yields (Yields.idx_roN sl28 rfl rfl rfl rfl (by omega))) rfl ?_
        refine D (tm' := [(19, _)]) ⟨rfl, trivial⟩ (DStep.yields (Yields.load_rop_one kd32 rfl (rowsR_at hx) rfl)) rfl ?_
        refine D (tm' := [(1, _)]) ⟨rfl, trivial⟩ (DStep.yields (mv rfl)) rfl ?_
        refine D (tm' := [(5, _)]) ⟨rfl, trivial⟩ (DStep.yields (mv rfl)) rfl ?_
        refine D (tm' := [(21, _), (22, _)]) ⟨rfl, rfl, trivial⟩ (DStep.yields (Yields.idx_roN sl28 rfl rfl rfl rfl (by omega))) rfl ?_
        refine D (tm' := [(23, _)]) ⟨rfl, trivial⟩ (DStep.yields (Yields.load_rop_one kd32 rfl (rowsR_at hx) rfl)) rfl ?_
        refine D (tm' := [(20, _), (24, _)]) ⟨rfl, rfl, trivial⟩ (DStep.callro (sSameInts_AF x (hs x (List.mem_of_getElem? hx))) rfl rfl) rfl ?_
        refine D (tm' := [(25, _)]) ⟨rfl, trivial⟩ (DStep.yields (Yields.not rfl)) rfl ?_
        refine DOps.nil ?_
        refine AWP.condT rfl (fun g2 => ?_) (fun g2 => ?_)
        · skip
          simp at g2
        · skip
          refine AWP.skip ?_
          refine AWP.region ?_
          refine Y (mv rfl) rfl ?_
          refine Y (bn rfl rfl (BinR.addI (by omega) (by omega)) rfl) rfl ?_
          refine Y (ass rfl) rfl ?_
          refine AOps.nil ?_
          refine ⟨i + 1, ?_, ?_, ?_⟩
          · show L.length - (i + 1) < L.length - i
            omega
          · show (i + 1) ≤ L.length
            show i + 1 ≤ L.length; omega
          · exact Leads.rows 0 ⟨rfl, rfl, rfl, trivial⟩
      · replace g := of_decide_eq_false g
        refine AWP.exit ?_
        refine AWP.seq ?_
        refine AWP.region ?_
        refine Y (ass rfl) rfl ?_
        refine AOps.nil ?_
        refine AWP.ret ⟨.inl rfl, ?_⟩
        exact RetIs.oneV rfl rfl (by (rfl) <;> rfl)
theorem sSameExpr_AF (k : Tr) (hk : k.bnd 1000000) : Fn 28 [k.av, k.av] (bool true) := by
  obtain ⟨kd, nm, t, ks⟩ := k
  refine AF.intro Try.func28 nm28 rfl rfl rfl rfl fun w0 ok0 => ?_
  refine AWP.seq ?_
  refine AWP.region ?_
  refine AOps.box rfl rfl rfl rfl fun b1 => ?_
  refine AOps.box rfl rfl rfl rfl fun b2 => ?_
  refine Y (ass rfl) rfl ?_
  refine AOps.nil ?_
  refine AWP.seq ?_
  refine AWP.region ?_
  refine Y (Yields.load_ptr_agg (j := 1) kd25 rfl rfl rfl rfl) rfl ?_
  refine Y (Yields.load_ptr_agg (j := 0) kd25 rfl rfl rfl rfl) rfl ?_
  refine AOps.callro (ssame_AFExpr (.mk kd nm t ks) (.mk kd nm t ks) hk) rfl rfl rfl ?_
  refine Y (ass rfl) rfl ?_
  refine AOps.nil ?_
  refine AWP.ret ⟨.inl rfl, ?_⟩
  exact RetIs.oneV rfl rfl (by (rw [sameT_refl]) <;> rfl)
theorem sizeE_ok {k : Tr} (h : ¬ sizeE k < 0) : okE k = true := by
  unfold sizeE at h
  by_cases hk : okE k = true
  · exact hk
  · rw [if_neg hk] at h; omega
theorem lawExprSize (code : List UInt8) : Fn 3 [.ro 1 (bytesV code) [] false] (bool true) := by
  have hl := bytesV_length code
  refine AF.intro Try.func3 nm3 rfl rfl rfl rfl fun w0 ok0 => ?_
  refine AWP.seq ?_
  refine AWP.region ?_
  refine Y (ass rfl) rfl ?_
  refine AOps.nil ?_
  refine AWP.seq ?_
  refine AWP.seq ?_
  refine AWP.region ?_
  refine Y (mv rfl) rfl ?_
  refine Y (Yields.len_ro sl22 rfl) rfl ?_
  refine Y (bn rfl rfl BinR.gtr rfl) rfl ?_
  refine AOps.nil ?_
  refine AWP.condT rfl (fun h => ?_) (fun h => ?_)
  · replace h := of_decide_eq_true h
    refine AWP.seq ?_
    refine AWP.region ?_
    refine Y (ass rfl) rfl ?_
    refine AOps.nil ?_
    refine AWP.ret ⟨.inl rfl, ?_⟩
    exact RetIs.oneV rfl rfl (by (rfl) <;> rfl)
  · replace h := of_decide_eq_false h
    refine AWP.skip ?_
    refine AWP.seq ?_
    refine AWP.region ?_
    refine Y (mv rfl) rfl ?_
    refine AOps.callH (.inr rfl) (drawExprSize_AH code (by omega)) rfl rfl rfl (WkL.refl _) ?_
    rintro _ _ ⟨⟨vk, vn, vt, vks⟩, w1, w2, rfl, rfl⟩
    refine AOps.alloc rfl z25 rfl rfl fun b3 => ?_
    refine AOps.store (j := 0) kd25 rfl rfl rfl rfl rfl rfl ?_
    refine AOps.nil ?_
    refine AWP.seq ?_
    refine AWP.region ?_
    refine Y (Yields.load_ptr_agg (j := 0) kd25 rfl rfl rfl rfl) rfl ?_
    refine AOps.callro (iExprSize_AF (.mk vk vn vt vks) w1 (by omega)) rfl rfl rfl ?_
    refine Y (ass rfl) rfl ?_
    refine AOps.nil ?_
    refine AWP.seq ?_
    refine AWP.region ?_
    refine Y (Yields.load_ptr_agg (j := 0) kd25 rfl rfl rfl rfl) rfl ?_
    refine AOps.callro (sExprSize_AF (.mk vk vn vt vks) w1 (by omega)) rfl rfl rfl ?_
    refine Y (ass rfl) rfl ?_
    refine AOps.nil ?_
    refine AWP.seq ?_
    refine AWP.region ?_
    refine Y (mv rfl) rfl ?_
    refine Y (mv rfl) rfl ?_
    refine Y (bn rfl rfl BinR.eql rfl) rfl ?_
    refine Y (ass rfl) rfl ?_
    refine AOps.nil ?_
    refine AWP.seq ?_
    refine AWP.seq ?_
    refine AWP.region ?_
    refine Y (mv rfl) rfl ?_
    refine Y (Yields.not rfl) rfl ?_
    refine Y (mv rfl) rfl ?_
    refine AOps.split 21 rfl (fun s1 => ?_) (fun s1 => ?_)
    · skip
      refine AOps.off' rfl rfl rfl rfl ?_
      refine AOps.off' rfl rfl rfl rfl ?_
      refine Y (Yields.pick_true rfl rfl) rfl ?_
      refine AOps.nil ?_
      refine AWP.cond rfl (fun _ => ?_) (fun h => absurd h (by decide))
      refine AWP.seq ?_
      refine AWP.region ?_
      refine Y (mv rfl) rfl ?_
      refine Y (ass rfl) rfl ?_
      refine AOps.nil ?_
      refine AWP.ret ⟨.inl rfl, ?_⟩
      exact RetIs.oneV rfl rfl (by (simp) <;> rfl)
    · skip
      refine AOps.on rfl rfl ?_
      refine Y (mv rfl) rfl ?_
      refine AOps.on rfl rfl ?_
      refine Y (bn rfl rfl BinR.lss rfl) rfl ?_
      refine Y (Yields.pick_false rfl rfl) rfl ?_
      refine AOps.nil ?_
      refine AWP.condT rfl (fun s2 => ?_) (fun s2 => ?_)
      · replace s2 := of_decide_eq_true s2
        refine AWP.seq ?_
        refine AWP.region ?_
        refine Y (mv rfl) rfl ?_
        refine Y (ass rfl) rfl ?_
        refine AOps.nil ?_
        refine AWP.ret ⟨.inl rfl, ?_⟩
        exact RetIs.oneV rfl rfl (by (simp) <;> rfl)
      · replace s2 := of_decide_eq_false s2
        have hok := sizeE_ok s2
        have heq : ((rowsR (pathsE (.mk vk vn vt vks))).length : Int) = sizeE (.mk vk vn vt vks) := by rw [rowsR_length, pathsE, if_pos hok, sizeE, if_pos hok]; exact pathsT_length _
        refine AWP.skip ?_
        refine AWP.seq ?_
        refine AWP.region ?_
        refine Y (Yields.load_ptr_agg (j := 0) kd25 rfl rfl rfl rfl) rfl ?_
        refine AOps.callro (iExprPaths_AF (.mk vk vn vt vks) w1 (by omega)) rfl rfl rfl ?_
        refine Y (Yields.len_ro sl28 rfl) rfl ?_
        refine Y (mv rfl) rfl ?_
        refine Y (bn rfl rfl BinR.eql rfl) rfl ?_
        refine Y (ass rfl) rfl ?_
        refine AOps.nil ?_
        refine AWP.ret ⟨.inl rfl, ?_⟩
        exact RetIs.oneV rfl rfl (by (rw [heq]; simp) <;> rfl)
theorem pathsE_ok {k : Tr} (h : (rowsR (pathsE k)).length ≠ 0) : okE k = true ∧ pathsE k = pathsT k := by
  rw [rowsR_length] at h
  by_cases hk : okE k = true
  · exact ⟨hk, by rw [pathsE, if_pos hk]⟩
  · rw [pathsE, if_neg hk] at h; exact absurd rfl h
theorem lawExprPaths (code : List UInt8) : Fn 4 [.ro 1 (bytesV code) [] false] (bool true) := by
  have hl := bytesV_length code
  refine AH.toF rfl (post := isV (bool true)) ?_ (fun r hp' h => isV.fz rfl h)
  refine AH.intro Try.func4 nm4 rfl rfl rfl fun w0 ok0 own0 => ?_
  refine AWP.seq ?_
  refine AWP.region ?_
  refine Y (ass rfl) rfl ?_
  refine AOps.nil ?_
  refine AWP.seq ?_
  refine AWP.seq ?_
  refine AWP.region ?_
  refine Y (mv rfl) rfl ?_
  refine Y (Yields.len_ro sl22 rfl) rfl ?_
  refine Y (bn rfl rfl BinR.gtr rfl) rfl ?_
  refine AOps.nil ?_
  refine AWP.condT rfl (fun h => ?_) (fun h => ?_)
  · replace h := of_decide_eq_true h
    refine AWP.seq ?_
    refine AWP.region ?_
    refine Y (ass rfl) rfl ?_
    refine AOps.nil ?_
    refine AWP.ret ⟨.inl rfl, ?_⟩
    exact RetH.of (rs := [.tmp 2]) (vs := [_]) rfl ⟨rfl, trivial⟩ KeepR.nil (⟨rfl, rfl⟩)
  · replace h := of_decide_eq_false h
    refine AWP.skip ?_
    refine AWP.seq ?_
    refine AWP.region ?_
    refine Y (mv rfl) rfl ?_
    refine AOps.callH (.inl trivial) (drawExprPaths_AH code (by omega)) rfl rfl rfl (WkL.refl _) ?_
    rintro _ _ ⟨⟨vk, vn, vt, vks⟩, w1, w2, rfl, rfl⟩
    refine AOps.alloc rfl z25 rfl rfl fun b3 => ?_
    have hll : (pathsE (.mk vk vn vt vks)).length ≤ 200000 := by have := pathsE_length (.mk vk vn vt vks); omega
    have hsh : ∀ p ∈ pathsE (.mk vk vn vt vks), p.length ≤ 200000 := fun p hp => by have := pathsE_short (.mk vk vn vt vks) p hp; omega
    have hok := @pathsE_ok (.mk vk vn vt vks)
    have hlr := rowsR_length (pathsE (.mk vk vn vt vks))
    refine AOps.store (j := 0) kd25 rfl rfl rfl rfl rfl rfl ?_
    refine AOps.nil ?_
    refine AWP.seq ?_
    refine AWP.region ?_
    refine Y (Yields.load_ptr_agg (j := 0) kd25 rfl rfl rfl rfl) rfl ?_
    refine AOps.callro (iExprPaths_AF (.mk vk vn vt vks) w1 (by omega)) rfl rfl rfl ?_
    refine Y (ass rfl) rfl ?_
    refine AOps.nil ?_
    refine AWP.seq ?_
    refine AWP.region ?_
    refine Y (Yields.load_ptr_agg (j := 0) kd25 rfl rfl rfl rfl) rfl ?_
    refine AOps.callro (sExprPaths_AF (.mk vk vn vt vks) w1 (by omega)) rfl rfl rfl ?_
    refine Y (ass rfl) rfl ?_
    refine AOps.nil ?_
    refine AWP.seq ?_
    refine AWP.region ?_
    refine Y (mv rfl) rfl ?_
    refine Y (mv rfl) rfl ?_
    refine AOps.callro (sSameRows_AF (pathsE (.mk vk vn vt vks)) (by omega) (fun p hp => by have := hsh p hp; omega)) rfl rfl rfl ?_
    refine Y (ass rfl) rfl ?_
    refine AOps.nil ?_
    refine AWP.seq ?_
    refine AWP.seq ?_
    refine AWP.region ?_
    refine Y (mv rfl) rfl ?_
    refine Y (Yields.not rfl) rfl ?_
    refine Y (mv rfl) rfl ?_
    refine AOps.split 27 rfl (fun s1 => ?_) (fun s1 => ?_)
    · skip
      simp at s1
    · skip
      refine AOps.on rfl rfl ?_
      refine Y (mv rfl) rfl ?_
      refine AOps.on rfl rfl ?_
      refine Y (Yields.len_ro sl28 rfl) rfl ?_
      refine AOps.on rfl rfl ?_
      refine Y (bn rfl rfl BinR.eql rfl) rfl ?_
      refine Y (Yields.pick_false rfl rfl) rfl ?_
      refine AOps.nil ?_
      refine AWP.condT rfl (fun s2 => ?_) (fun s2 => ?_)
      · replace s2 := eq_of_beq s2
        refine AWP.seq ?_
        refine AWP.region ?_
        refine Y (mv rfl) rfl ?_
        refine Y (ass rfl) rfl ?_
        refine AOps.nil ?_
        refine AWP.ret ⟨.inl rfl, ?_⟩
        exact RetH.of (rs := [.tmp 2]) (vs := [_]) rfl ⟨rfl, trivial⟩ KeepR.nil (⟨rfl, rfl⟩)
      · replace s2 := ne_of_beq_false s2
        obtain ⟨hok1, hok2⟩ := hok (by omega)
        have hat : ∀ p ∈ pathsE (.mk vk vn vt vks), atB (.mk vk vn vt vks) p = true := fun p hp => by rw [hok2] at hp; rw [atB, hok1, pathsT_at _ p hp]; rfl
        have hlast : ∀ p, (pathsE (.mk vk vn vt vks))[(pathsE (.mk vk vn vt vks)).length - 1]? = some p → atB (.mk vk vn vt vks) (p ++ [0]) = false := fun p hp => by rw [hok2, ← List.getLast?_eq_getElem?] at hp; rw [atB, pathsT_last _ p hp]; simp
        have hfirst : (pathsE (.mk vk vn vt vks))[0]? = some [] := by rw [hok2]; exact pathsT_first _
        generalize pathsE (.mk vk vn vt vks) = L at *
        refine AWP.skip ?_
        refine AWP.seq ?_
        refine AWP.seq ?_
        refine AWP.region ?_
        refine Y (mv rfl) rfl ?_
        refine Y (Yields.len_ro sl28 rfl) rfl ?_
        refine Y (mv rfl) rfl ?_
        refine AOps.nil ?_
        refine AWP.block ?_
        refine AWP.loopV (α := Nat) (fun i : Nat => ⟨[(3, .ptr (some b3) 0 0 4), (4, .ro 1 (rowsR L) [] false), (33, .ro 1 (rowsR L) [] false), (34, int (rowsR L).length), (35, int i)], [(some b3, ⟨4, [Tr.av (.mk vk vn vt vks)]⟩)]⟩) (fun i : Nat => i ≤ L.length) (fun i : Nat => L.length - i) (0) ?_ ?_ ?_
        · exact Leads.keepR (KeepR.cons 0 rfl KeepR.nil) ⟨rfl, rfl, rfl, rfl, rfl, trivial⟩
        · show 0 ≤ L.length
          exact Nat.zero_le _
        · rintro i hinv
          refine AWP.seq ?_
          refine AWP.region ?_
          refine Y (bn rfl rfl BinR.lss rfl) rfl ?_
          refine AOps.nil ?_
          refine AWP.seq ?_
          refine AWP.condT rfl (fun g => ?_) (fun g => ?_)
          · replace g := of_decide_eq_true g
            obtain ⟨pp, hpp, _⟩ := drop_at (l := L) (i := i) (by omega)
            have hpm := List.mem_of_getElem? hpp
            have hF := iExprAt_AF (.mk vk vn vt vks) w1 (by omega) pp (by have := hsh pp hpm; omega)
            rw [hat pp hpm] at hF
            refine trElim (atE (.mk vk vn vt vks) pp) fun zk zn zt zks hzz => ?_
            rw [hzz] at hF
            refine AWP.skip ?_
            refine AWP.seq ?_
            refine AWP.block ?_
            refine AWP.seq ?_
            refine AWP.region ?_
            refine Y (Yields.idx_roN sl28 rfl rfl rfl rfl (by omega)) rfl ?_
            refine Y (Yields.load_rop_one kd32 rfl (rowsR_at hpp) rfl) rfl ?_
            refine Y (ass rfl) rfl ?_
            refine AOps.nil ?_
            refine AWP.seq ?_
            refine AWP.region ?_
            refine Y (Yields.load_ptr_agg (j := 0) kd25 rfl rfl rfl rfl) rfl ?_
            refine Y (mv rfl) rfl ?_
            refine AOps.callro (hF) rfl rfl rfl ?_
            refine Y (mv rfl) rfl ?_
            refine Y (Yields.extract rfl rfl) rfl ?_
            refine Y (Yields.extract rfl rfl) rfl ?_
            refine AOps.alloc rfl z25 rfl rfl fun b9 => ?_
            refine AOps.store (j := 0) kd25 rfl rfl rfl rfl rfl rfl ?_
            refine Y (ass rfl) rfl ?_
            refine AOps.nil ?_
            refine AWP.seq ?_
            refine AWP.region ?_
            refine Y (mv rfl) rfl ?_
            refine Y (Yields.not rfl) rfl ?_
            refine AOps.nil ?_
            refine AWP.condT rfl (fun s3 => ?_) (fun s3 => ?_)
            · skip
              simp at s3
            · skip
              refine AWP.skip ?_
              refine AWP.region ?_
              refine Y (bn rfl rfl (BinR.addI (by omega) (by omega)) rfl) rfl ?_
              refine Y (mv rfl) rfl ?_
              refine AOps.nil ?_
              refine ⟨i + 1, ?_, ?_, ?_⟩
              · show L.length - (i + 1) < L.length - i
                omega
              · show (i + 1) ≤ L.length
                show i + 1 ≤ L.length; omega
              · exact Leads.keepR (KeepR.cons 1 rfl KeepR.nil) ⟨rfl, rfl, rfl, rfl, rfl, trivial⟩
          · replace g := of_decide_eq_false g
            obtain ⟨pp, hpp, _⟩ := drop_at (l := L) (i := L.length - 1) (by omega)
            have hps := hsh pp (List.mem_of_getElem? hpp)
            have hpl := ints_length pp
            have hF := iExprAt_AF (.mk vk vn vt vks) w1 (by omega) (pp ++ [0]) (by simp; omega)
            rw [hlast pp hpp] at hF
            refine trElim (atE (.mk vk vn vt vks) (pp ++ [0])) fun zk zn zt zks hzz => ?_
            rw [hzz] at hF
            refine AWP.exit ?_
            refine AWP.seq ?_
            refine AWP.prune (tm' := [(3, _), (4, _), (33, _), (34, _), (35, _), (36, _)]) ⟨rfl, rfl, rfl, rfl, rfl, rfl, trivial⟩ ?_
            refine AWP.drawnM [] [.pure 0, .pure 1, .pure 2, .pure 3, .pure 4, .pure 5, .pure 6, .pure 7, .pure 9, .pure 15, .spine 8 [1] [1, 2, 3, 4, 5, 6, 7], .spine 10 [9] [1, 2, 3, 4, 5, 6, 7, 8, 9], .spine 11 [] [0, 1, 2, 3, 4, 5, 6, 7, 8, 9, 10], .pure 12, .pure 13, .pure 14, .spine 16 [15] [0, 1, 2, 3, 4, 5, 6, 7, 8, 9, 10, 11, 12, 13, 15], .pure 17] mixed rfl rfl rfl rfl rfl ?_
            refine DM.pure (GX (tm' := [(3, _)]) rfl ⟨rfl, trivial⟩ rfl (DStep.yields (Yields.load_ptr_agg (j := 0) kd25 rfl rfl rfl rfl)) rfl) ?_
            refine DM.pure (GXs (tm' := []) rfl trivial rfl rfl (DStepU.buildSlice sl32 z3 rfl rfl rfl rfl) rfl) ?_
            refine DM.pure (GX (tm' := [(4, _)]) rfl ⟨rfl, trivial⟩ rfl (DStep.yields (mv rfl)) rfl) ?_
            refine DM.pure (GX (tm' := [(4, _)]) rfl ⟨rfl, trivial⟩ rfl (DStep.yields (mv rfl)) rfl) ?_
            refine DM.pure (GX (tm' := [(52, _)]) rfl ⟨rfl, trivial⟩ rfl (DStep.yields (Yields.len_ro sl28 rfl)) rfl) ?_
            refine DM.pure (GX (tm' := [(53, _)]) rfl ⟨rfl, trivial⟩ rfl (DStep.yields (bn rfl rfl (BinR.subI (by omega) (by omega)) rfl)) rfl) ?_
            refine DM.pure (GX (tm' := [(51, _), (54, _)]) rfl ⟨rfl, rfl, trivial⟩ rfl (DStep.yields (Yields.idx_roN sl28 rfl rfl rfl (j := L.length - 1) (by omega) (by omega))) rfl) ?_
            refine DM.pure (GX (tm' := [(55, _)]) rfl ⟨rfl, trivial⟩ rfl (DStep.yields (Yields.load_rop_one kd32 rfl (rowsR_at hpp) rfl)) rfl) ?_
            refine DM.pure (GXs (tm' := []) rfl trivial rfl rfl (DStepU.buildSlice sl32 z3 rfl rfl rfl rfl) rfl) ?_
            refine DM.pure (GXs (tm' := []) rfl trivial rfl rfl (DStepU.alloc z25 rfl rfl) rfl) ?_
            refine DM.sp rfl rfl ?_
            refine DOpen.own rfl fun Ba => ?_
            refine DOpen.nil fun _ _ _ => ?_
            refine AOps.subT (tm' := [(50, _), (56, _)]) ⟨rfl, rfl, trivial⟩ ?_
            refine AOps.appendE (j := 0) sl32 z3 rfl rfl rfl rfl rfl rfl rfl (src_ro rfl) (show 0 + (ints pp).length = pp.length by omega) (List.nil_append _) (by omega) (by omega) fun Bn => ?_
            refine AOps.nil ?_
            refine SpK.mk rfl rfl ?_ ?_
            · skip
              refine Stab.skip rfl ?_
              refine Stab.keep (GXs (tm' := []) rfl trivial rfl rfl (DStepU.alloc z25 rfl rfl) rfl) ?_
              refine Stab.keep (GXs (tm' := []) rfl trivial rfl rfl (DStepU.buildSlice sl32 z3 rfl rfl rfl rfl) rfl) ?_
              refine Stab.skip rfl ?_
              refine Stab.skip rfl ?_
              refine Stab.skip rfl ?_
              refine Stab.skip rfl ?_
              refine Stab.skip rfl ?_
              refine Stab.skip rfl ?_
              refine Stab.skip rfl ?_
              refine Stab.keep (GX (tm' := [(3, _)]) rfl ⟨rfl, trivial⟩ rfl (DStep.yields (Yields.load_ptr_agg (j := 1) kd25 rfl rfl rfl rfl)) rfl) ?_
              exact trivial
            refine DM.sp rfl rfl ?_
            refine DOpen.own rfl fun Bz => ?_
            refine DOpen.nil fun _ _ _ => ?_
            refine AOps.subT (tm' := [(57, _), (58, _)]) ⟨rfl, rfl, trivial⟩ ?_
            refine AOps.appendE (j := 1) sl32 z3 rfl rfl rfl rfl rfl hpl rfl (src_row (j2 := 0) rfl rfl rfl) (show pp.length + 1 = (pp ++ [0]).length by simp) (ints_app pp 0) (by simp; omega) (by simp; omega) fun Bq => ?_
            refine AOps.nil ?_
            refine SpK.mk rfl rfl ?_ ?_
            · skip
              refine Stab.skip rfl ?_
              refine Stab.skip rfl ?_
              refine Stab.keep (GXs (tm' := []) rfl trivial rfl rfl (DStepU.alloc z25 rfl rfl) rfl) ?_
              refine Stab.skip rfl ?_
              refine Stab.skip rfl ?_
              refine Stab.skip rfl ?_
              refine Stab.skip rfl ?_
              refine Stab.skip rfl ?_
              refine Stab.skip rfl ?_
              refine Stab.skip rfl ?_
              refine Stab.skip rfl ?_
              refine Stab.keep (GX (tm' := [(3, _)]) rfl ⟨rfl, trivial⟩ rfl (DStep.yields (Yields.load_ptr_agg (j := 2) kd25 rfl rfl rfl rfl)) rfl) ?_
              exact trivial
            refine DM.sp rfl rfl ?_
            refine DOpen.nil fun _ _ _ => ?_
            refine AOps.subT (tm' := [(49, _), (59, _)]) ⟨rfl, rfl, trivial⟩ ?_
            refine AOps.leads (Leads.pull 1 rfl) ?_
            refine AOps.leads (Leads.freezeT 1 59 (.inl trivial) rfl (fz_ints rfl)) ?_
            refine AOps.callro (hF) rfl rfl rfl ?_
            refine AOps.nil ?_
            refine SpK.mk rfl rfl ?_ ?_
            · skip
              refine Stab.skip rfl ?_
              refine Stab.skip rfl ?_
              refine Stab.skip rfl ?_
              refine Stab.keep (GXs (tm' := []) rfl trivial rfl rfl (DStepU.alloc z25 rfl rfl) rfl) ?_
              refine Stab.skip rfl ?_
              refine Stab.skip rfl ?_
              refine Stab.skip rfl ?_
              refine Stab.skip rfl ?_
              refine Stab.skip rfl ?_
              refine Stab.skip rfl ?_
              refine Stab.skip rfl ?_
              refine Stab.skip rfl ?_
              refine Stab.skip rfl ?_
              exact trivial
            refine DM.pure (GX (tm' := [(60, _)]) rfl ⟨rfl, trivial⟩ rfl (DStep.yields (mv rfl)) rfl) ?_
            refine DM.pure (GX (tm' := [(48, _)]) rfl ⟨rfl, trivial⟩ rfl (DStep.yields (Yields.extract rfl rfl)) rfl) ?_
            refine DM.pure (GX (tm' := [(48, _)]) rfl ⟨rfl, trivial⟩ rfl (DStep.yields (Yields.extract rfl rfl)) rfl) ?_
            refine DM.sp rfl rfl ?_
            refine DOpen.optr rfl fun b11 => ?_
            refine DOpen.nil fun _ _ _ => ?_
            refine AOps.subT (tm' := [(11, _), (61, _)]) ⟨rfl, rfl, trivial⟩ ?_
            refine AOps.store (j := 0) kd25 rfl rfl rfl rfl rfl rfl ?_
            refine AOps.nil ?_
            refine SpK.mk0 ?_ ?_
            · skip
              refine Stab.keep (GX (tm' := [(48, _)]) rfl ⟨rfl, trivial⟩ rfl (DStep.yields (Yields.extract rfl rfl)) rfl) ?_
              refine Stab.skip rfl ?_
              refine Stab.skip rfl ?_
              refine Stab.skip rfl ?_
              refine Stab.skip rfl ?_
              refine Stab.skip rfl ?_
              refine Stab.skip rfl ?_
              refine Stab.skip rfl ?_
              refine Stab.skip rfl ?_
              refine Stab.skip rfl ?_
              refine Stab.skip rfl ?_
              refine Stab.skip rfl ?_
              refine Stab.skip rfl ?_
              refine Stab.skip rfl ?_
              refine Stab.skip rfl ?_
              refine Stab.skip rfl ?_
              exact trivial
            refine DM.pure (GX (tm' := [(62, _)]) rfl ⟨rfl, trivial⟩ rfl (DStep.yields (ass rfl)) rfl) ?_
            refine DM.nil ?_
            refine AWP.seq ?_
            refine AWP.region ?_
            refine Y (mv rfl) rfl ?_
            refine Y (Yields.idx_roN sl28 rfl rfl rfl (j := 0) rfl (by omega)) rfl ?_
            refine Y (Yields.load_rop_one kd32 rfl (rowsR_at hfirst) rfl) rfl ?_
            refine Y (Yields.len_ro sl32 rfl) rfl ?_
            refine Y (bn rfl rfl BinR.eql rfl) rfl ?_
            refine Y (mv rfl) rfl ?_
            refine AOps.split 68 rfl (fun s4 => ?_) (fun s4 => ?_)
            · replace s4 := eq_of_beq s4
              refine AOps.on rfl rfl ?_
              refine Y (mv rfl) rfl ?_
              refine AOps.on rfl rfl ?_
              refine Y (Yields.not rfl) rfl ?_
              refine Y (Yields.pick_true rfl rfl) rfl ?_
              refine Y (ass rfl) rfl ?_
              refine AOps.nil ?_
              refine AWP.ret ⟨.inl rfl, ?_⟩
              exact RetH.of (rs := [.tmp 2]) (vs := [_]) rfl ⟨rfl, trivial⟩ KeepR.nil (⟨rfl, rfl⟩)
            · replace s4 := ne_of_beq_false s4
              simp [ints] at s4
theorem cut_strs (n : ByteArray) (l : List ByteArray) : ((strs (n :: l) ++ []).drop 1).take ((strs (n :: l)).length - 1) = strs l := by
  simp [strs, List.take_of_length_le]
theorem freeE_cons {k : Tr} {n : ByteArray} {l : List ByteArray} (h : freeE k = n :: l) : okE k = true ∧ freeT k = n :: l := by
  unfold freeE at h
  split at h
  · rename_i hk; exact ⟨hk, h⟩
  · cases h
theorem bnd_let {k : Tr} {n : ByteArray} (hk : k.bnd 1000000) (hn : n.size ≤ 1000000) : Tr.bnd 1000000 (.mk 11 0 n [.mk 0 1 ⟨#[]⟩ [], k]) := ⟨hn, by simp, ⟨by decide, by simp, trivial⟩, hk, trivial⟩
mutual
theorem freeT_bnd {N : Nat} : ∀ (k : Tr), k.bnd N → ∀ s ∈ freeT k, s.size ≤ N
  | .mk kd nm t ks, h, s, hs => by
    rw [freeT] at hs
    split at hs
    · rw [List.mem_singleton.1 hs]; exact h.1
    · rcases freeK_bnd ks (bindsB kd) t 0 [] h.2.2 s hs with q | q
      · cases q
      · exact q
theorem freeK_bnd {N : Nat} : ∀ (ks : List Tr) (b : Bool) (t : ByteArray) (i : Nat) (out : List ByteArray), Tr.bnds N ks → ∀ s ∈ freeK ks b t i out, s ∈ out ∨ s.size ≤ N
  | [], b, t, i, out, h, s, hs => by rw [freeK] at hs; exact .inl hs
  | k :: ks, b, t, i, out, h, s, hs => by
    rw [freeK] at hs
    rcases freeK_bnd ks b t (i + 1) _ h.2 s hs with q | q
    · rcases (joinL_mem _ _).1 q with q | q
      · exact .inl q
      · refine .inr (freeT_bnd k h.1 s ?_)
        unfold withoutI at q
        split at q
        · exact (List.mem_filter.1 q).1
        · exact q
    · exact .inr q
end
theorem lawFreeNames (code : List UInt8) : Fn 5 [.ro 1 (bytesV code) [] false] (bool true) := by
  have hl := bytesV_length code
  refine AF.intro Try.func5 nm5 rfl rfl rfl rfl fun w0 ok0 => ?_
  refine AWP.seq ?_
  refine AWP.region ?_
  refine Y (ass rfl) rfl ?_
  refine AOps.nil ?_
  refine AWP.seq ?_
  refine AWP.seq ?_
  refine AWP.region ?_
  refine Y (mv rfl) rfl ?_
  refine Y (Yields.len_ro sl22 rfl) rfl ?_
  refine Y (bn rfl rfl BinR.gtr rfl) rfl ?_
  refine AOps.nil ?_
  refine AWP.condT rfl (fun h => ?_) (fun h => ?_)
  · replace h := of_decide_eq_true h
    refine AWP.seq ?_
    refine AWP.region ?_
    refine Y (ass rfl) rfl ?_
    refine AOps.nil ?_
    refine AWP.ret ⟨.inl rfl, ?_⟩
    exact RetIs.oneV rfl rfl (by (rfl) <;> rfl)
  · replace h := of_decide_eq_false h
    refine AWP.skip ?_
    refine AWP.seq ?_
    refine AWP.region ?_
    refine Y (mv rfl) rfl ?_
    refine AOps.callH (.inr rfl) (drawFreeNames_AH code (by omega)) rfl rfl rfl (WkL.refl _) ?_
    rintro _ _ ⟨⟨vk, vn, vt, vks⟩, w1, w2, rfl, rfl⟩
    refine AOps.alloc rfl z25 rfl rfl fun b3 => ?_
    have hfl := freeE_length (.mk vk vn vt vks)
    have hsl := strs_length (freeE (.mk vk vn vt vks))
    refine AOps.store (j := 0) kd25 rfl rfl rfl rfl rfl rfl ?_
    refine AOps.nil ?_
    refine AWP.seq ?_
    refine AWP.region ?_
    refine Y (Yields.load_ptr_agg (j := 0) kd25 rfl rfl rfl rfl) rfl ?_
    refine AOps.callro (iFreeNames_AF (.mk vk vn vt vks) w1 (by omega)) rfl rfl rfl ?_
    refine Y (ass rfl) rfl ?_
    refine AOps.nil ?_
    refine AWP.seq ?_
    refine AWP.region ?_
    refine Y (Yields.load_ptr_agg (j := 0) kd25 rfl rfl rfl rfl) rfl ?_
    refine AOps.callro (sFreeNames_AF (.mk vk vn vt vks) w1 (by omega)) rfl rfl rfl ?_
    refine Y (ass rfl) rfl ?_
    refine AOps.nil ?_
    refine AWP.seq ?_
    refine AWP.region ?_
    refine Y (mv rfl) rfl ?_
    refine Y (mv rfl) rfl ?_
    refine AOps.callro (sSameTexts_AF (freeE (.mk vk vn vt vks)) (by omega)) rfl rfl rfl ?_
    refine Y (ass rfl) rfl ?_
    refine AOps.nil ?_
    refine AWP.seq ?_
    refine AWP.seq ?_
    refine AWP.region ?_
    refine Y (mv rfl) rfl ?_
    refine Y (Yields.not rfl) rfl ?_
    refine Y (mv rfl) rfl ?_
    refine AOps.split 23 rfl (fun s1 => ?_) (fun s1 => ?_)
    · skip
      simp at s1
    · skip
      refine AOps.on rfl rfl ?_
      refine Y (mv rfl) rfl ?_
      refine AOps.on rfl rfl ?_
      refine Y (Yields.len_ro sl35 rfl) rfl ?_
      refine AOps.on rfl rfl ?_
      refine Y (bn rfl rfl BinR.eql rfl) rfl ?_
      refine Y (Yields.pick_false rfl rfl) rfl ?_
      refine AOps.nil ?_
      refine AWP.condT rfl (fun s2 => ?_) (fun s2 => ?_)
      · replace s2 := eq_of_beq s2
        refine AWP.seq ?_
        refine AWP.region ?_
        refine Y (mv rfl) rfl ?_
        refine Y (ass rfl) rfl ?_
        refine AOps.nil ?_
        refine AWP.ret ⟨.inl rfl, ?_⟩
        exact RetIs.oneV rfl rfl (by (rfl) <;> rfl)
      · replace s2 := ne_of_beq_false s2
        obtain ⟨n, hn, _⟩ := drop_at (l := freeE (.mk vk vn vt vks)) (i := 0) (by omega)
        obtain ⟨l, hnl⟩ : ∃ l, freeE (.mk vk vn vt vks) = n :: l := by
           cases hc : freeE (.mk vk vn vt vks) with
           | nil => rw [hc] at hn; cases hn
           | cons a l => rw [hc] at hn; cases hn; exact ⟨l, rfl⟩
        obtain ⟨hok, hft⟩ := freeE_cons hnl
        have hns : n.size ≤ 1000000 := freeT_bnd (.mk vk vn vt vks) w1 n (by rw [hft]; exact List.mem_cons_self)
        have hxb : Tr.bnd 1000000 (.mk 11 0 n [.mk 0 1 ⟨#[]⟩ [], (.mk vk vn vt vks)]) := bnd_let w1 hns
        have hxz : sizeT (.mk 11 0 n [.mk 0 1 ⟨#[]⟩ [], (.mk vk vn vt vks)]) ≤ 200002 := by rw [size2]; simp only [sizeT, sizeTs] at *; omega
        have hll : l.length ≤ 200000 := by rw [hnl] at hfl; simp at hfl; omega
        rw [hnl]
        have hsl2 : (strs (n :: l)).length = l.length + 1 := by simp [strs]
        refine AWP.skip ?_
        refine AWP.seq ?_
        refine AWP.region ?_
        refine Y (Yields.build pl25 z25 rfl rfl) rfl ?_
        refine AOps.alloc rfl z25 rfl rfl fun b7 => ?_
        refine AOps.store (j := 0) kd25 rfl rfl rfl rfl rfl rfl ?_
        refine AOps.nil ?_
        refine AWP.leads (Leads.rowWk 0 0 rfl rfl (wk_leaf _ _ _)) ?_
        refine AWP.seq ?_
        refine AWP.prune (tm' := [(0, _), (2, _), (11, _), (3, _), (4, _), (5, _), (6, _), (27, _), (7, _)]) ⟨rfl, rfl, rfl, rfl, rfl, rfl, rfl, rfl, rfl, trivial⟩ ?_
        refine AWP.drawnM [] [.pure 0, .pure 1, .pure 2, .pure 3, .pure 4, .pure 5, .pure 6, .pure 7, .spine 8 [7] [0, 1, 2, 3, 4, 5, 6, 7]] mixed rfl rfl rfl rfl rfl ?_
        refine DM.pure (GX (tm' := [(4, _)]) rfl ⟨rfl, trivial⟩ rfl (DStep.yields (mv rfl)) rfl) ?_
        refine DM.pure (GX (tm' := [(30, _)]) rfl ⟨rfl, trivial⟩ rfl (DStep.yields (Yields.idx_roN sl35 rfl rfl rfl (j := 0) rfl (by simp [strs]))) rfl) ?_
        refine DM.pure (GX (tm' := [(31, _)]) rfl ⟨rfl, trivial⟩ rfl (DStep.yields (Yields.load_rop_one kd9 rfl (strs_at (l := n :: l) rfl) rfl)) rfl) ?_
        refine DM.pure (GX (tm' := [(7, _)]) rfl ⟨rfl, trivial⟩ rfl (DStep.yields (Yields.load_ptr_agg (j := 0) kd25 rfl rfl rfl rfl)) rfl) ?_
        refine DM.pure (GX (tm' := [(3, _)]) rfl ⟨rfl, trivial⟩ rfl (DStep.yields (Yields.load_ptr_agg (j := 1) kd25 rfl rfl rfl rfl)) rfl) ?_
        refine DM.pure (GX (tm' := [(33, _), (34, _)]) rfl ⟨rfl, rfl, trivial⟩ rfl (DStep.buildRo sl23 z25 rfl rfl rfl rfl) rfl) ?_
        refine DM.pure (GX (tm' := [(32, _), (35, _)]) rfl ⟨rfl, rfl, trivial⟩ rfl (DStep.yields (Yields.build pl25 z25 rfl rfl)) rfl) ?_
        refine DM.pure (GXs (tm' := []) rfl trivial rfl rfl (DStepU.alloc z25 rfl rfl) rfl) ?_
        refine DM.sp rfl rfl ?_
        refine DOpen.optr rfl fun b8 => ?_
        refine DOpen.nil fun _ _ _ => ?_
        refine AOps.subT (tm' := [(8, _), (36, _)]) ⟨rfl, rfl, trivial⟩ ?_
        refine AOps.store (j := 0) kd25 rfl rfl rfl rfl rfl rfl ?_
        refine AOps.nil ?_
        refine SpK.mk0 (Stab.all rfl) ?_
        refine DM.nil ?_
        refine AWP.seq ?_
        refine AWP.prune (tm' := [(0, _), (2, _), (11, _), (3, _), (4, _), (5, _), (6, _), (27, _), (7, _), (8, _)]) ⟨rfl, rfl, rfl, rfl, rfl, rfl, rfl, rfl, rfl, rfl, trivial⟩ ?_
        refine AWP.drawn mixed rfl rfl ?_
        refine D (tm' := [(8, _)]) ⟨rfl, trivial⟩ (DStep.yields (Yields.load_ptr_agg (j := 0) kd25 rfl rfl rfl rfl)) rfl ?_
        refine D (tm' := [(37, _)]) ⟨rfl, trivial⟩ (DStep.callro (iExprOk_AF' (.mk 11 0 n [.mk 0 1 ⟨#[]⟩ [], (.mk vk vn vt vks)]) hxb) rfl rfl) rfl ?_
        refine D (tm' := [(38, _)]) ⟨rfl, trivial⟩ (DStep.yields (Yields.not rfl)) rfl ?_
        refine D (tm' := [(39, _)]) ⟨rfl, trivial⟩ (DStep.yields (mv rfl)) rfl ?_
        refine DOps.split 3 rfl (fun s3 => ?_) (fun s3 => ?_)
        · skip
          refine DOps.off rfl rfl rfl rfl ?_
          refine DOps.off rfl rfl rfl rfl ?_
          refine DOps.off rfl rfl rfl rfl ?_
          refine DOps.off rfl rfl rfl rfl ?_
          refine DOps.off rfl rfl rfl rfl ?_
          refine D (tm' := [(40, _), (45, _)]) ⟨rfl, rfl, trivial⟩ (DStep.yields (Yields.pick_true rfl rfl)) rfl ?_
          refine D (tm' := [(46, _)]) ⟨rfl, trivial⟩ (DStep.yields (ass rfl)) rfl ?_
          refine DOps.nil ?_
          refine AWP.ret ⟨.inl rfl, ?_⟩
          exact RetIs.oneV rfl rfl (by (rfl) <;> rfl)
        · skip
          have hok2 : okE (.mk 11 0 n [.mk 0 1 ⟨#[]⟩ [], (.mk vk vn vt vks)]) = true := by simpa using s3
          have hF := iFreeNames_AF (.mk 11 0 n [.mk 0 1 ⟨#[]⟩ [], (.mk vk vn vt vks)]) hxb (by omega)
          rw [freeE, if_pos hok2, free_let n l (.mk 0 1 ⟨#[]⟩ []) (.mk vk vn vt vks) rfl hft] at hF
          refine DOps.on rfl rfl ?_
          refine D (tm' := [(8, _)]) ⟨rfl, trivial⟩ (DStep.yields (Yields.load_ptr_agg (j := 0) kd25 rfl rfl rfl rfl)) rfl ?_
          refine DOps.on rfl rfl ?_
          refine D (tm' := [(41, _)]) ⟨rfl, trivial⟩ (DStep.callro (hF) rfl rfl) rfl ?_
          refine DOps.on rfl rfl ?_
          refine D (tm' := [(4, _)]) ⟨rfl, trivial⟩ (DStep.yields (mv rfl)) rfl ?_
          refine DOps.on rfl rfl ?_
          refine D (tm' := [(43, _)]) ⟨rfl, trivial⟩ (DStep.yields (Yields.slice_ro sl35 rfl (l := 1) (u := (strs (n :: l)).length) ⟨.i64, rfl⟩ rfl (by omega) (by simp))) rfl ?_
          refine DOps.on rfl rfl ?_
          refine D (tm' := [(42, _), (44, _)]) ⟨rfl, rfl, trivial⟩ (DStep.callw (sSameTexts_AF l (by omega)) rfl ⟨Wk.refl _, Wk.ro (cut_strs n l ▸ WkL.refl _), trivial⟩ rfl) rfl ?_
          refine D (tm' := [(40, _), (45, _)]) ⟨rfl, rfl, trivial⟩ (DStep.yields (Yields.pick_false rfl rfl)) rfl ?_
          refine D (tm' := [(46, _)]) ⟨rfl, trivial⟩ (DStep.yields (ass rfl)) rfl ?_
          refine DOps.nil ?_
          refine AWP.ret ⟨.inl rfl, ?_⟩
          exact RetIs.oneV rfl rfl (by (rfl) <;> rfl)
theorem lawLocalsAt (code : List UInt8) : Fn 6 [.ro 1 (bytesV code) [] false] (bool true) := by
  have hl := bytesV_length code
  refine AF.intro Try.func6 nm6 rfl rfl rfl rfl fun w0 ok0 => ?_
  refine AWP.seq ?_
  refine AWP.region ?_
  refine Y (ass rfl) rfl ?_
  refine AOps.nil ?_
  refine AWP.seq ?_
  refine AWP.seq ?_
  refine AWP.region ?_
  refine Y (mv rfl) rfl ?_
  refine Y (Yields.len_ro sl22 rfl) rfl ?_
  refine Y (bn rfl rfl BinR.gtr rfl) rfl ?_
  refine AOps.nil ?_
  refine AWP.condT rfl (fun h => ?_) (fun h => ?_)
  · replace h := of_decide_eq_true h
    refine AWP.seq ?_
    refine AWP.region ?_
    refine Y (ass rfl) rfl ?_
    refine AOps.nil ?_
    refine AWP.ret ⟨.inl rfl, ?_⟩
    exact RetIs.oneV rfl rfl (by (rfl) <;> rfl)
  · replace h := of_decide_eq_false h
    refine AWP.skip ?_
    refine AWP.seq ?_
    refine AWP.region ?_
    refine Y (mv rfl) rfl ?_
    refine AOps.callH (.inr rfl) (drawLocalsAt_AH code (by omega)) rfl rfl rfl (WkL.refl _) ?_
    rintro _ _ ⟨⟨vk, vn, vt, vks⟩, p, w1, w2, w3, rfl, rfl⟩
    refine Y (mv rfl) rfl ?_
    refine Y (Yields.extract rfl rfl) rfl ?_
    refine Y (Yields.extract rfl rfl) rfl ?_
    refine AOps.alloc rfl z25 rfl rfl fun b3 => ?_
    have hll := locE_length (.mk vk vn vt vks) p
    have hsl := strs_length (locE (.mk vk vn vt vks) p)
    have hpl := ints_length p
    refine AOps.store (j := 0) kd25 rfl rfl rfl rfl rfl rfl ?_
    refine Y (ass rfl) rfl ?_
    refine AOps.nil ?_
    refine AWP.seq ?_
    refine AWP.region ?_
    refine Y (Yields.load_ptr_agg (j := 0) kd25 rfl rfl rfl rfl) rfl ?_
    refine Y (mv rfl) rfl ?_
    refine AOps.callro (iLocalsAt_AF (.mk vk vn vt vks) w1 (by omega) p (by omega)) rfl rfl rfl ?_
    refine Y (ass rfl) rfl ?_
    refine AOps.nil ?_
    refine AWP.seq ?_
    refine AWP.region ?_
    refine Y (Yields.load_ptr_agg (j := 0) kd25 rfl rfl rfl rfl) rfl ?_
    refine Y (mv rfl) rfl ?_
    refine AOps.callro (sLocalsAt_AF (.mk vk vn vt vks) w1 (by omega) p (by omega)) rfl rfl rfl ?_
    refine Y (ass rfl) rfl ?_
    refine AOps.nil ?_
    refine AWP.seq ?_
    refine AWP.region ?_
    refine Y (mv rfl) rfl ?_
    refine Y (mv rfl) rfl ?_
    refine AOps.callro (sSameTexts_AF (locE (.mk vk vn vt vks) p) (by omega)) rfl rfl rfl ?_
    refine Y (ass rfl) rfl ?_
    refine AOps.nil ?_
    refine AWP.seq ?_
    refine AWP.seq ?_
    refine AWP.region ?_
    refine Y (mv rfl) rfl ?_
    refine Y (Yields.not rfl) rfl ?_
    refine Y (mv rfl) rfl ?_
    refine AOps.split 27 rfl (fun s1 => ?_) (fun s1 => ?_)
    · skip
      simp at s1
    · skip
      refine AOps.on rfl rfl ?_
      refine Y (mv rfl) rfl ?_
      refine AOps.on rfl rfl ?_
      refine Y (Yields.len_ro sl35 rfl) rfl ?_
      refine AOps.on rfl rfl ?_
      refine Y (bn rfl rfl BinR.eql rfl) rfl ?_
      refine Y (Yields.pick_false rfl rfl) rfl ?_
      refine AOps.nil ?_
      refine AWP.condT rfl (fun s2 => ?_) (fun s2 => ?_)
      · replace s2 := eq_of_beq s2
        refine AWP.seq ?_
        refine AWP.region ?_
        refine Y (mv rfl) rfl ?_
        refine Y (ass rfl) rfl ?_
        refine AOps.nil ?_
        refine AWP.ret ⟨.inl rfl, ?_⟩
        exact RetIs.oneV rfl rfl (by (rfl) <;> rfl)
      · replace s2 := ne_of_beq_false s2
        have hF := iLocalsAt_AF (.mk vk vn vt vks) w1 (by omega) [] (by simp)
        rw [locE_nil] at hF
        refine AWP.skip ?_
        refine AWP.seq ?_
        refine AWP.region ?_
        refine Y (Yields.load_ptr_agg (j := 0) kd25 rfl rfl rfl rfl) rfl ?_
        refine AOps.callw (hF) rfl rfl ⟨Wk.refl _, Wk.nil, trivial⟩ rfl ?_
        refine Y (Yields.len_ro sl35 rfl) rfl ?_
        refine Y (bn rfl rfl BinR.eql rfl) rfl ?_
        refine Y (mv rfl) rfl ?_
        refine AOps.split 37 rfl (fun s3 => ?_) (fun s3 => ?_)
        · replace s3 := eq_of_beq s3
          refine AOps.on rfl rfl ?_
          refine Y (mv rfl) rfl ?_
          refine AOps.on rfl rfl ?_
          refine Y (Yields.len_ro sl32 rfl) rfl ?_
          refine AOps.on rfl rfl ?_
          refine Y (mv rfl) rfl ?_
          refine AOps.on rfl rfl ?_
          refine Y (Yields.len_ro sl35 rfl) rfl ?_
          refine AOps.on rfl rfl ?_
          refine Y (bn rfl rfl BinR.geq rfl) rfl ?_
          refine Y (Yields.pick_true rfl rfl) rfl ?_
          refine Y (ass rfl) rfl ?_
          refine AOps.nil ?_
          refine AWP.ret ⟨.inl rfl, ?_⟩
          exact RetIs.oneV rfl rfl (by (simp; omega) <;> rfl)
        · replace s3 := ne_of_beq_false s3
          simp [strs] at s3
theorem atB_put {k : Tr} {p : List Int} (h : atB k p = true) : putB k p (atE k p) = true ∧ putE k p (atE k p) = k ∧ okE k = true := by
  have h1 : okE k = true ∧ (atT k p).isSome = true := by rw [atB, Bool.and_eq_true] at h; exact h
  obtain ⟨x, hx⟩ := Option.isSome_iff_exists.1 h1.2
  have e : atE k p = x := by rw [atE, if_pos h, atV, hx]; rfl
  have hp := putT_self p k x hx
  have hox : okE x = true := okE_at h1.1 hx
  have hb : putB k p (atE k p) = true := by rw [putB, e, hp, h1.1, hox, hx]; rfl
  refine ⟨hb, ?_, h1.1⟩
  rw [putE, if_pos hb, e, hp]
theorem lawExprAt (code : List UInt8) : Fn 7 [.ro 1 (bytesV code) [] false] (bool true) := by
  have hl := bytesV_length code
  refine AF.intro Try.func7 nm7 rfl rfl rfl rfl fun w0 ok0 => ?_
  refine AWP.seq ?_
  refine AWP.region ?_
  refine Y (ass rfl) rfl ?_
  refine AOps.nil ?_
  refine AWP.seq ?_
  refine AWP.seq ?_
  refine AWP.region ?_
  refine Y (mv rfl) rfl ?_
  refine Y (Yields.len_ro sl22 rfl) rfl ?_
  refine Y (bn rfl rfl BinR.gtr rfl) rfl ?_
  refine AOps.nil ?_
  refine AWP.condT rfl (fun h => ?_) (fun h => ?_)
  · replace h := of_decide_eq_true h
    refine AWP.seq ?_
    refine AWP.region ?_
    refine Y (ass rfl) rfl ?_
    refine AOps.nil ?_
    refine AWP.ret ⟨.inl rfl, ?_⟩
    exact RetIs.oneV rfl rfl (by (rfl) <;> rfl)
  · replace h := of_decide_eq_false h
    refine AWP.skip ?_
    refine AWP.seq ?_
    refine AWP.region ?_
    refine Y (mv rfl) rfl ?_
    refine AOps.callH (.inr rfl) (drawExprAt_AH code (by omega)) rfl rfl rfl (WkL.refl _) ?_
    rintro _ _ ⟨⟨vk, vn, vt, vks⟩, p, w1, w2, w3, rfl, rfl⟩
    have hxb := atE_facts (.mk vk vn vt vks) p w1
    have hxs := atE_size (.mk vk vn vt vks) p
    have iF := iExprAt_AF (.mk vk vn vt vks) w1 (by omega) p (by omega)
    have sF := sExprAt_AF (.mk vk vn vt vks) w1 (by omega) p (by omega)
    have hput := @atB_put (.mk vk vn vt vks) p
    refine trElim (atE (.mk vk vn vt vks) p) fun zk zn zt zks hzz => ?_
    rw [hzz] at iF sF hxb hxs hput
    refine Y (mv rfl) rfl ?_
    refine Y (Yields.extract rfl rfl) rfl ?_
    refine Y (Yields.extract rfl rfl) rfl ?_
    refine AOps.alloc rfl z25 rfl rfl fun b3 => ?_
    refine AOps.store (j := 0) kd25 rfl rfl rfl rfl rfl rfl ?_
    refine Y (ass rfl) rfl ?_
    refine AOps.nil ?_
    refine AWP.seq ?_
    refine AWP.region ?_
    refine Y (Yields.load_ptr_agg (j := 0) kd25 rfl rfl rfl rfl) rfl ?_
    refine Y (mv rfl) rfl ?_
    refine AOps.callro (iF) rfl rfl rfl ?_
    refine Y (mv rfl) rfl ?_
    refine Y (Yields.extract rfl rfl) rfl ?_
    refine Y (Yields.extract rfl rfl) rfl ?_
    refine AOps.alloc rfl z25 rfl rfl fun b5 => ?_
    refine AOps.store (j := 0) kd25 rfl rfl rfl rfl rfl rfl ?_
    refine Y (ass rfl) rfl ?_
    refine AOps.nil ?_
    refine AWP.seq ?_
    refine AWP.region ?_
    refine Y (Yields.load_ptr_agg (j := 1) kd25 rfl rfl rfl rfl) rfl ?_
    refine Y (mv rfl) rfl ?_
    refine AOps.callro (sF) rfl rfl rfl ?_
    refine Y (mv rfl) rfl ?_
    refine Y (Yields.extract rfl rfl) rfl ?_
    refine Y (Yields.extract rfl rfl) rfl ?_
    refine AOps.alloc rfl z25 rfl rfl fun b7 => ?_
    refine AOps.store (j := 0) kd25 rfl rfl rfl rfl rfl rfl ?_
    refine Y (ass rfl) rfl ?_
    refine AOps.nil ?_
    refine AWP.seq ?_
    refine AWP.region ?_
    refine Y (Yields.load_ptr_agg (j := 1) kd25 rfl rfl rfl rfl) rfl ?_
    refine Y (Yields.load_ptr_agg (j := 0) kd25 rfl rfl rfl rfl) rfl ?_
    refine AOps.callro (sSameExpr_AF (.mk zk zn zt zks) hxb) rfl rfl rfl ?_
    refine Y (mv rfl) rfl ?_
    refine AOps.split 35 rfl (fun s0 => ?_) (fun s0 => ?_)
    · skip
      refine AOps.on rfl rfl ?_
      refine Y (mv rfl) rfl ?_
      refine AOps.on rfl rfl ?_
      refine Y (mv rfl) rfl ?_
      refine AOps.on rfl rfl ?_
      refine Y (bn rfl rfl (BinR.beql Try.underlying4) rfl) rfl ?_
      refine Y (Yields.pick_true rfl rfl) rfl ?_
      refine Y (ass rfl) rfl ?_
      refine AOps.nil ?_
      refine AWP.seq ?_
      refine AWP.seq ?_
      refine AWP.region ?_
      refine Y (mv rfl) rfl ?_
      refine Y (Yields.not rfl) rfl ?_
      refine Y (mv rfl) rfl ?_
      refine AOps.split 42 rfl (fun s1 => ?_) (fun s1 => ?_)
      · skip
        simp at s1
      · skip
        refine AOps.on rfl rfl ?_
        refine Y (mv rfl) rfl ?_
        refine AOps.on rfl rfl ?_
        refine Y (Yields.not rfl) rfl ?_
        refine Y (Yields.pick_false rfl rfl) rfl ?_
        refine AOps.nil ?_
        refine AWP.condT rfl (fun s2 => ?_) (fun s2 => ?_)
        · skip
          refine AWP.seq ?_
          refine AWP.region ?_
          refine Y (mv rfl) rfl ?_
          refine Y (ass rfl) rfl ?_
          refine AOps.nil ?_
          refine AWP.ret ⟨.inl rfl, ?_⟩
          exact RetIs.oneV rfl rfl (by (simp) <;> rfl)
        · skip
          obtain ⟨q1, q2, q3⟩ := hput (by simpa using s2)
          have pF := iExprPut_AF (.mk vk vn vt vks) (.mk zk zn zt zks) w1 (by omega) hxb p (by omega)
          rw [q1, q2] at pF
          refine AWP.skip ?_
          refine AWP.seq ?_
          refine AWP.region ?_
          refine Y (Yields.load_ptr_agg (j := 2) kd25 rfl rfl rfl rfl) rfl ?_
          refine Y (mv rfl) rfl ?_
          refine Y (Yields.load_ptr_agg (j := 1) kd25 rfl rfl rfl rfl) rfl ?_
          refine AOps.callro (pF) rfl rfl rfl ?_
          refine Y (mv rfl) rfl ?_
          refine Y (Yields.extract rfl rfl) rfl ?_
          refine Y (Yields.extract rfl rfl) rfl ?_
          refine AOps.alloc rfl z25 rfl rfl fun b10 => ?_
          refine AOps.store (j := 0) kd25 rfl rfl rfl rfl rfl rfl ?_
          refine Y (ass rfl) rfl ?_
          refine AOps.nil ?_
          refine AWP.seq ?_
          refine AWP.region ?_
          refine Y (mv rfl) rfl ?_
          refine Y (mv rfl) rfl ?_
          refine AOps.split 55 rfl (fun s3 => ?_) (fun s3 => ?_)
          · skip
            refine AOps.on rfl rfl ?_
            refine Y (Yields.load_ptr_agg (j := 0) kd25 rfl rfl rfl rfl) rfl ?_
            refine AOps.on rfl rfl ?_
            refine Y (Yields.load_ptr_agg (j := 3) kd25 rfl rfl rfl rfl) rfl ?_
            refine AOps.on rfl rfl ?_
            refine AOps.callro (iExprSame_AF (.mk vk vn vt vks) (.mk vk vn vt vks) w1 w1) rfl rfl rfl ?_
            refine Y (Yields.pick_true rfl rfl) rfl ?_
            refine Y (ass rfl) rfl ?_
            refine AOps.nil ?_
            refine AWP.ret ⟨.inl rfl, ?_⟩
            exact RetIs.oneV rfl rfl (by (rw [q3, sameT_refl]; rfl) <;> rfl)
          · skip
            cases s3
    · skip
      cases s0
theorem putB_at {k x : Tr} {p : List Int} (h : putB k p x = true) : atB (putE k p x) p = true ∧ atE (putE k p x) p = x ∧ okE x = true := by
  have e : putE k p x = putT k p x := by rw [putE, if_pos h]
  rw [putB, Bool.and_eq_true, Bool.and_eq_true, Bool.and_eq_true] at h
  obtain ⟨h1, h2, h3, h4⟩ := h
  have hp := atT_put p k x h3
  rw [e]
  have hb : atB (putT k p x) p = true := by rw [atB, h4, hp]; rfl
  refine ⟨hb, ?_, h2⟩
  rw [atE, if_pos hb, atV, hp]; rfl
theorem lawExprPut (code : List UInt8) : Fn 8 [.ro 1 (bytesV code) [] false] (bool true) := by
  have hl := bytesV_length code
  refine AF.intro Try.func8 nm8 rfl rfl rfl rfl fun w0 ok0 => ?_
  refine AWP.seq ?_
  refine AWP.region ?_
  refine Y (ass rfl) rfl ?_
  refine AOps.nil ?_
  refine AWP.seq ?_
  refine AWP.seq ?_
  refine AWP.region ?_
  refine Y (mv rfl) rfl ?_
  refine Y (Yields.len_ro sl22 rfl) rfl ?_
  refine Y (bn rfl rfl BinR.gtr rfl) rfl ?_
  refine AOps.nil ?_
  refine AWP.condT rfl (fun h => ?_) (fun h => ?_)
  · replace h := of_decide_eq_true h
    refine AWP.seq ?_
    refine AWP.region ?_
    refine Y (ass rfl) rfl ?_
    refine AOps.nil ?_
    refine AWP.ret ⟨.inl rfl, ?_⟩
    exact RetIs.oneV rfl rfl (by (rfl) <;> rfl)
  · replace h := of_decide_eq_false h
    refine AWP.skip ?_
    refine AWP.seq ?_
    refine AWP.region ?_
    refine Y (mv rfl) rfl ?_
    refine AOps.callH (.inr rfl) (drawExprPut_AH code (by omega)) rfl rfl rfl (WkL.refl _) ?_
    rintro _ _ ⟨⟨vk, vn, vt, vks⟩, p, ⟨xk, xn, xt, xks⟩, w1, w2, w3, x1, x2, rfl, rfl⟩
    have iF := iExprPut_AF (.mk vk vn vt vks) (.mk xk xn xt xks) w1 (by omega) x1 p (by omega)
    have sF := sExprPut_AF (.mk vk vn vt vks) (.mk xk xn xt xks) w1 (by omega) x1 p (by omega)
    have hpf := putE_facts (.mk vk vn vt vks) (.mk xk xn xt xks) p w1 x1
    have hat := @putB_at (.mk vk vn vt vks) (.mk xk xn xt xks) p
    refine trElim (putE (.mk vk vn vt vks) p (.mk xk xn xt xks)) fun zk zn zt zks hzz => ?_
    rw [hzz] at iF sF hpf hat
    refine Y (mv rfl) rfl ?_
    refine Y (Yields.extract rfl rfl) rfl ?_
    refine Y (Yields.extract rfl rfl) rfl ?_
    refine Y (Yields.extract rfl rfl) rfl ?_
    refine AOps.alloc rfl z25 rfl rfl fun b3 => ?_
    refine AOps.alloc rfl z25 rfl rfl fun b5 => ?_
    refine AOps.store (j := 1) kd25 rfl rfl rfl rfl rfl rfl ?_
    refine Y (ass rfl) rfl ?_
    refine AOps.store (j := 0) kd25 rfl rfl rfl rfl rfl rfl ?_
    refine AOps.nil ?_
    refine AWP.seq ?_
    refine AWP.region ?_
    refine Y (Yields.load_ptr_agg (j := 1) kd25 rfl rfl rfl rfl) rfl ?_
    refine Y (mv rfl) rfl ?_
    refine Y (Yields.load_ptr_agg (j := 0) kd25 rfl rfl rfl rfl) rfl ?_
    refine AOps.callro (iF) rfl rfl rfl ?_
    refine Y (mv rfl) rfl ?_
    refine Y (Yields.extract rfl rfl) rfl ?_
    refine Y (Yields.extract rfl rfl) rfl ?_
    refine AOps.alloc rfl z25 rfl rfl fun b6 => ?_
    refine AOps.store (j := 0) kd25 rfl rfl rfl rfl rfl rfl ?_
    refine Y (ass rfl) rfl ?_
    refine AOps.nil ?_
    refine AWP.seq ?_
    refine AWP.region ?_
    refine Y (Yields.load_ptr_agg (j := 2) kd25 rfl rfl rfl rfl) rfl ?_
    refine Y (mv rfl) rfl ?_
    refine Y (Yields.load_ptr_agg (j := 1) kd25 rfl rfl rfl rfl) rfl ?_
    refine AOps.callro (sF) rfl rfl rfl ?_
    refine Y (mv rfl) rfl ?_
    refine Y (Yields.extract rfl rfl) rfl ?_
    refine Y (Yields.extract rfl rfl) rfl ?_
    refine AOps.alloc rfl z25 rfl rfl fun b8 => ?_
    refine AOps.store (j := 0) kd25 rfl rfl rfl rfl rfl rfl ?_
    refine Y (ass rfl) rfl ?_
    refine AOps.nil ?_
    refine AWP.seq ?_
    refine AWP.region ?_
    refine Y (Yields.load_ptr_agg (j := 1) kd25 rfl rfl rfl rfl) rfl ?_
    refine Y (Yields.load_ptr_agg (j := 0) kd25 rfl rfl rfl rfl) rfl ?_
    refine AOps.callro (sSameExpr_AF (.mk zk zn zt zks) hpf.1) rfl rfl rfl ?_
    refine Y (mv rfl) rfl ?_
    refine AOps.split 39 rfl (fun s0 => ?_) (fun s0 => ?_)
    · skip
      refine AOps.on rfl rfl ?_
      refine Y (mv rfl) rfl ?_
      refine AOps.on rfl rfl ?_
      refine Y (mv rfl) rfl ?_
      refine AOps.on rfl rfl ?_
      refine Y (bn rfl rfl (BinR.beql Try.underlying4) rfl) rfl ?_
      refine Y (Yields.pick_true rfl rfl) rfl ?_
      refine Y (ass rfl) rfl ?_
      refine AOps.nil ?_
      refine AWP.seq ?_
      refine AWP.seq ?_
      refine AWP.region ?_
      refine Y (mv rfl) rfl ?_
      refine Y (Yields.not rfl) rfl ?_
      refine Y (mv rfl) rfl ?_
      refine AOps.split 46 rfl (fun s1 => ?_) (fun s1 => ?_)
      · skip
        simp at s1
      · skip
        refine AOps.on rfl rfl ?_
        refine Y (mv rfl) rfl ?_
        refine AOps.on rfl rfl ?_
        refine Y (Yields.not rfl) rfl ?_
        refine Y (Yields.pick_false rfl rfl) rfl ?_
        refine AOps.nil ?_
        refine AWP.condT rfl (fun s2 => ?_) (fun s2 => ?_)
        · skip
          refine AWP.seq ?_
          refine AWP.region ?_
          refine Y (mv rfl) rfl ?_
          refine Y (ass rfl) rfl ?_
          refine AOps.nil ?_
          refine AWP.ret ⟨.inl rfl, ?_⟩
          exact RetIs.oneV rfl rfl (by (simp) <;> rfl)
        · skip
          obtain ⟨q1, q2, q3⟩ := hat (by simpa using s2)
          have aF := iExprAt_AF (.mk zk zn zt zks) hpf.1 (by omega) p (by omega)
          rw [q1, q2] at aF
          refine AWP.skip ?_
          refine AWP.seq ?_
          refine AWP.region ?_
          refine Y (Yields.load_ptr_agg (j := 1) kd25 rfl rfl rfl rfl) rfl ?_
          refine Y (mv rfl) rfl ?_
          refine AOps.callro (aF) rfl rfl rfl ?_
          refine Y (mv rfl) rfl ?_
          refine Y (Yields.extract rfl rfl) rfl ?_
          refine Y (Yields.extract rfl rfl) rfl ?_
          refine AOps.alloc rfl z25 rfl rfl fun b11 => ?_
          refine AOps.store (j := 0) kd25 rfl rfl rfl rfl rfl rfl ?_
          refine Y (ass rfl) rfl ?_
          refine AOps.nil ?_
          refine AWP.seq ?_
          refine AWP.region ?_
          refine Y (mv rfl) rfl ?_
          refine Y (mv rfl) rfl ?_
          refine AOps.split 58 rfl (fun s3 => ?_) (fun s3 => ?_)
          · skip
            refine AOps.on rfl rfl ?_
            refine Y (Yields.load_ptr_agg (j := 0) kd25 rfl rfl rfl rfl) rfl ?_
            refine AOps.on rfl rfl ?_
            refine Y (Yields.load_ptr_agg (j := 3) kd25 rfl rfl rfl rfl) rfl ?_
            refine AOps.on rfl rfl ?_
            refine AOps.callro (iExprSame_AF (.mk xk xn xt xks) (.mk xk xn xt xks) x1 x1) rfl rfl rfl ?_
            refine Y (Yields.pick_true rfl rfl) rfl ?_
            refine Y (ass rfl) rfl ?_
            refine AOps.nil ?_
            refine AWP.ret ⟨.inl rfl, ?_⟩
            exact RetIs.oneV rfl rfl (by (rw [q3, sameT_refl]; rfl) <;> rfl)
          · skip
            cases s3
    · skip
      cases s0
end Go.Proofs.Yteieleejhbljfaa
