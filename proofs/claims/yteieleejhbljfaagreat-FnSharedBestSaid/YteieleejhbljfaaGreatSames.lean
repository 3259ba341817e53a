/- The reference's equalities, of equal data. -/
import Derived.Test.YteieleejhbljfaaGreatDraw
namespace Go.Proofs.YteieleejhbljfaaGreat
open Go Go.Ax Go.Proofs
set_option linter.unusedVariables false
set_option linter.unusedSimpArgs false
set_option maxRecDepth 20000
theorem sameTexts_AF (l : List ByteArray) (hl : l.length ≤ 4000000) : Fn 31 [.ro 1 (strs l) [] false, .ro 1 (strs l) [] false] (bool true) := by
  have hlen := strs_length l
  refine AF.intro Tryz.func31 nm31 rfl rfl rfl rfl fun w0 ok0 => ?_
  refine AWP.seq ?_
  refine AWP.region ?_
  refine Y (ass rfl) rfl ?_
  refine AOps.nil ?_
  refine AWP.seq ?_
  refine AWP.seq ?_
  refine AWP.region ?_
  refine Y (mv rfl) rfl ?_
  refine Y (Yields.len_ro sl27 rfl) rfl ?_
  refine Y (mv rfl) rfl ?_
  refine Y (Yields.len_ro sl27 rfl) rfl ?_
  refine Y (bn rfl rfl BinR.neq rfl) rfl ?_
  refine AOps.nil ?_
  refine AWP.condT rfl (fun h => ?_) (fun h => ?_)
  ·
   replace h := bne_iff_ne.1 h
   exact absurd rfl h
  ·
   replace h := bne_eq_false_iff_eq.1 h
   refine AWP.skip ?_
   refine AWP.seq ?_
   refine AWP.seq ?_
   refine AWP.region ?_
   refine Y (ass rfl) rfl ?_
   refine AOps.nil ?_
   refine AWP.block ?_
   refine AWP.loopV (α := Nat) (fun i : Nat => ⟨[(0, .ro 1 (strs l) [] false), (1, .ro 1 (strs l) [] false), (5, int i)], []⟩) (fun i : Nat => i ≤ l.length) (fun i : Nat => l.length - i) (0) ?_ ?_ ?_
   · exact Leads.rows 0 ⟨rfl, rfl, rfl, trivial⟩
   ·
    show 0 ≤ l.length
    exact Nat.zero_le _
   ·
    rintro i hinv
    refine AWP.seq ?_
    refine AWP.seq ?_
    refine AWP.region ?_
    refine Y (mv rfl) rfl ?_
    refine Y (mv rfl) rfl ?_
    refine Y (Yields.len_ro sl27 rfl) rfl ?_
    refine Y (bn rfl rfl BinR.lss rfl) rfl ?_
    refine AOps.nil ?_
    refine AWP.condT rfl (fun g => ?_) (fun g => ?_)
    ·
     replace g := of_decide_eq_true g
     obtain ⟨n, hn, _⟩ := drop_at (l := l) (i := i) (by omega)
     refine AWP.skip ?_
     refine AWP.seq ?_
     refine AWP.block ?_
     refine AWP.seq ?_
     refine AWP.prune (tm' := [(0, _), (1, _), (5, _), (14, _)]) ⟨rfl, rfl, rfl, rfl, trivial⟩ ?_
     refine AWP.drawn mixed rfl rfl ?_
     refine D (tm' := [(0, _)]) ⟨rfl, trivial⟩ (DStep.yields (mv rfl)) rfl ?_
     refine D (tm' := [(5, _)]) ⟨rfl, trivial⟩ (DStep.yields (mv rfl)) rfl ?_
     refine D (tm' := [(17, _), (18, _)]) ⟨rfl, rfl, trivial⟩ (DStep.yields (Yields.idx_roN sl27 rfl rfl rfl rfl (by omega))) rfl ?_
     refine D (tm' := [(19, _)]) ⟨rfl, trivial⟩ (DStep.yields (Yields.load_rop_one kd9 rfl (strs_at hn) rfl)) rfl ?_
     refine D (tm' := [(1, _)]) ⟨rfl, trivial⟩ (DStep.yields (mv rfl)) rfl ?_
     refine D (tm' := [(5, _)]) ⟨rfl, trivial⟩ (DStep.yields (mv rfl)) rfl ?_
     refine D (tm' := [(21, _), (22, _)]) ⟨rfl, rfl, trivial⟩ (DStep.yields (Yields.idx_roN sl27 rfl rfl rfl rfl (by omega))) rfl ?_
     refine D (tm' := [(23, _)]) ⟨rfl, trivial⟩ (DStep.yields (Yields.load_rop_one kd9 rfl (strs_at hn) rfl)) rfl ?_
     refine D (tm' := [(20, _), (24, _)]) ⟨rfl, rfl, trivial⟩ (DStep.yields (bn rfl rfl BinR.sneq rfl)) rfl ?_
     refine DOps.nil ?_
     refine AWP.condT rfl (fun g2 => ?_) (fun g2 => ?_)
     ·
      replace g2 := of_decide_eq_true g2
      exact absurd rfl g2
     ·
      replace g2 := Decidable.of_not_not (of_decide_eq_false g2)
      refine AWP.skip ?_
      refine AWP.region ?_
      refine Y (mv rfl) rfl ?_
      refine Y (bn rfl rfl (BinR.addI (by omega) (by omega)) rfl) rfl ?_
      refine Y (ass rfl) rfl ?_
      refine AOps.nil ?_
      refine ⟨i + 1, ?_, ?_, ?_⟩
      ·
       show l.length - (i + 1) < l.length - i
       omega
      ·
       show (i + 1) ≤ l.length
       show i + 1 ≤ l.length; omega
      · exact Leads.rows 0 ⟨rfl, rfl, rfl, trivial⟩
    ·
     replace g := of_decide_eq_false g
     refine AWP.exit ?_
     refine AWP.seq ?_
     refine AWP.region ?_
     refine Y (ass rfl) rfl ?_
     refine AOps.nil ?_
     refine AWP.ret ⟨.inl rfl, ?_⟩
     exact RetIs.oneV rfl rfl (by (rfl) <;> rfl)
theorem sSameTexts_AF (l : List ByteArray) (hl : l.length ≤ 4000000) : Fn 9 [.ro 1 (strs l) [] false, .ro 1 (strs l) [] false] (bool true) := by
  refine AF.intro Tryz.func9 nm9 rfl rfl rfl rfl fun w0 ok0 => ?_
  refine AWP.seq ?_
  refine AWP.region ?_
  refine Y (ass rfl) rfl ?_
  refine AOps.nil ?_
  refine AWP.seq ?_
  refine AWP.region ?_
  refine Y (mv rfl) rfl ?_
  refine Y (mv rfl) rfl ?_
  refine AOps.callro (sameTexts_AF l hl) rfl rfl rfl ?_
  refine Y (ass rfl) rfl ?_
  refine AOps.nil ?_
  refine AWP.ret ⟨.inl rfl, ?_⟩
  exact RetIs.oneV rfl rfl (by (rfl) <;> rfl)
theorem sSameInts_AF (l : List Int) (hl : l.length ≤ 4000000) : Fn 20 [.ro 1 (ints l) [] false, .ro 1 (ints l) [] false] (bool true) := by
  have hlen := ints_length l
  refine AF.intro Tryz.func20 nm20 rfl rfl rfl rfl fun w0 ok0 => ?_
  refine AWP.seq ?_
  refine AWP.region ?_
  refine Y (ass rfl) rfl ?_
  refine AOps.nil ?_
  refine AWP.seq ?_
  refine AWP.seq ?_
  refine AWP.region ?_
  refine Y (mv rfl) rfl ?_
  refine Y (Yields.len_ro sl32 rfl) rfl ?_
  refine Y (mv rfl) rfl ?_
  refine Y (Yields.len_ro sl32 rfl) rfl ?_
  refine Y (bn rfl rfl BinR.neq rfl) rfl ?_
  refine AOps.nil ?_
  refine AWP.condT rfl (fun h => ?_) (fun h => ?_)
  ·
   replace h := bne_iff_ne.1 h
   exact absurd rfl h
  ·
   replace h := bne_eq_false_iff_eq.1 h
   refine AWP.skip ?_
   refine AWP.seq ?_
   refine AWP.seq ?_
   refine AWP.region ?_
   refine Y (ass rfl) rfl ?_
   refine AOps.nil ?_
   refine AWP.block ?_
   refine AWP.loopV (α := Nat) (fun i : Nat => ⟨[(0, .ro 1 (ints l) [] false), (1, .ro 1 (ints l) [] false), (5, int i)], []⟩) (fun i : Nat => i ≤ l.length) (fun i : Nat => l.length - i) (0) ?_ ?_ ?_
   · exact Leads.rows 0 ⟨rfl, rfl, rfl, trivial⟩
   ·
    show 0 ≤ l.length
    exact Nat.zero_le _
   ·
    rintro i hinv
    refine AWP.seq ?_
    refine AWP.seq ?_
    refine AWP.region ?_
    refine Y (mv rfl) rfl ?_
    refine Y (mv rfl) rfl ?_
    refine Y (Yields.len_ro sl32 rfl) rfl ?_
    refine Y (bn rfl rfl BinR.lss rfl) rfl ?_
    refine AOps.nil ?_
    refine AWP.condT rfl (fun g => ?_) (fun g => ?_)
    ·
     replace g := of_decide_eq_true g
     obtain ⟨n, hn, _⟩ := drop_at (l := l) (i := i) (by omega)
     refine AWP.skip ?_
     refine AWP.seq ?_
     refine AWP.block ?_
     refine AWP.seq ?_
     refine AWP.prune (tm' := [(0, _), (1, _), (5, _), (14, _)]) ⟨rfl, rfl, rfl, rfl, trivial⟩ ?_
     refine AWP.drawn mixed rfl rfl ?_
     refine D (tm' := [(0, _)]) ⟨rfl, trivial⟩ (DStep.yields (mv rfl)) rfl ?_
     refine D (tm' := [(5, _)]) ⟨rfl, trivial⟩ (DStep.yields (mv rfl)) rfl ?_
     refine D (tm' := [(17, _), (18, _)]) ⟨rfl, rfl, trivial⟩ (DStep.yields (Yields.idx_roN sl32 rfl rfl rfl rfl (by omega))) rfl ?_
     refine D (tm' := [(19, _)]) ⟨rfl, trivial⟩ (DStep.yields (Yields.load_rop_one kd3 rfl (ints_at hn) rfl)) rfl ?_
     refine D (tm' := [(1, _)]) ⟨rfl, trivial⟩ (DStep.yields (mv rfl)) rfl ?_
     refine D (tm' := [(5, _)]) ⟨rfl, trivial⟩ (DStep.yields (mv rfl)) rfl ?_
     refine D (tm' := [(21, _), (22, _)]) ⟨rfl, rfl, trivial⟩ (DStep.yields (Yields.idx_roN sl32 rfl rfl rfl rfl (by omega))) rfl ?_
     refine D (tm' := [(23, _)]) ⟨rfl, trivial⟩ (DStep.yields (Yields.load_rop_one kd3 rfl (ints_at hn) rfl)) rfl ?_
     refine D (tm' := [(20, _), (24, _)]) ⟨rfl, rfl, trivial⟩ (DStep.yields (bn rfl rfl BinR.neq rfl)) rfl ?_
     refine DOps.nil ?_
     refine AWP.condT rfl (fun g2 => ?_) (fun g2 => ?_)
     ·
      replace g2 := bne_iff_ne.1 g2
      exact absurd rfl g2
     ·
      replace g2 := bne_eq_false_iff_eq.1 g2
      refine AWP.skip ?_
      refine AWP.region ?_
      refine Y (mv rfl) rfl ?_
      refine Y (bn rfl rfl (BinR.addI (by omega) (by omega)) rfl) rfl ?_
      refine Y (ass rfl) rfl ?_
      refine AOps.nil ?_
      refine ⟨i + 1, ?_, ?_, ?_⟩
      ·
       show l.length - (i + 1) < l.length - i
       omega
      ·
       show (i + 1) ≤ l.length
       show i + 1 ≤ l.length; omega
      · exact Leads.rows 0 ⟨rfl, rfl, rfl, trivial⟩
    ·
     replace g := of_decide_eq_false g
     refine AWP.exit ?_
     refine AWP.seq ?_
     refine AWP.region ?_
     refine Y (ass rfl) rfl ?_
     refine AOps.nil ?_
     refine AWP.ret ⟨.inl rfl, ?_⟩
     exact RetIs.oneV rfl rfl (by (rfl) <;> rfl)
theorem sSameRows_AF (L : List (List Int)) (hl : L.length ≤ 4000000) (hs : ∀ p ∈ L, p.length ≤ 4000000) : Fn 14 [.ro 1 (rowsR L) [] false, .ro 1 (rowsR L) [] false] (bool true) := by
  have hlr := rowsR_length L
  refine AF.intro Tryz.func14 nm14 rfl rfl rfl rfl fun w0 ok0 => ?_
  refine AWP.seq ?_
  refine AWP.region ?_
  refine Y (ass rfl) rfl ?_
  refine AOps.nil ?_
  refine AWP.seq ?_
  refine AWP.seq ?_
  refine AWP.region ?_
  refine Y (mv rfl) rfl ?_
  refine Y (Yields.len_ro sl35 rfl) rfl ?_
  refine Y (mv rfl) rfl ?_
  refine Y (Yields.len_ro sl35 rfl) rfl ?_
  refine Y (bn rfl rfl BinR.neq rfl) rfl ?_
  refine AOps.nil ?_
  refine AWP.condT rfl (fun h => ?_) (fun h => ?_)
  ·
   replace h := bne_iff_ne.1 h
   exact absurd rfl h
  ·
   replace h := bne_eq_false_iff_eq.1 h
   refine AWP.skip ?_
   refine AWP.seq ?_
   refine AWP.seq ?_
   refine AWP.region ?_
   refine Y (ass rfl) rfl ?_
   refine AOps.nil ?_
   refine AWP.block ?_
   refine AWP.loopV (α := Nat) (fun i : Nat => ⟨[(0, .ro 1 (rowsR L) [] false), (1, .ro 1 (rowsR L) [] false), (5, int i)], []⟩) (fun i : Nat => i ≤ L.length) (fun i : Nat => L.length - i) (0) ?_ ?_ ?_
   · exact Leads.rows 0 ⟨rfl, rfl, rfl, trivial⟩
   ·
    show 0 ≤ L.length
    exact Nat.zero_le _
   ·
    rintro i hinv
    refine AWP.seq ?_
    refine AWP.seq ?_
    refine AWP.region ?_
    have hi := hinv
    refine Y (mv rfl) rfl ?_
    refine Y (mv rfl) rfl ?_
    refine Y (Yields.len_ro sl35 rfl) rfl ?_
    refine Y (bn rfl rfl BinR.lss rfl) rfl ?_
    refine AOps.nil ?_
    refine AWP.condT rfl (fun g => ?_) (fun g => ?_)
    ·
     replace g := of_decide_eq_true g
     obtain ⟨x, hx, hdx⟩ := drop_at (l := L) (i := i) (by omega)
     refine AWP.skip ?_
     refine AWP.seq ?_
     refine AWP.block ?_
     refine AWP.seq ?_
     refine AWP.prune (tm' := [(0, _), (1, _), (5, _), (14, _)]) ⟨rfl, rfl, rfl, rfl, trivial⟩ ?_
     refine AWP.drawn mixed rfl rfl ?_
     refine D (tm' := [(0, _)]) ⟨rfl, trivial⟩ (DStep.yields (mv rfl)) rfl ?_
     refine D (tm' := [(5, _)]) ⟨rfl, trivial⟩ (DStep.yields (mv rfl)) rfl ?_
     refine D (tm' := [(17, _), (18, _)]) ⟨rfl, rfl, trivial⟩ (DStep.yields (Yields.idx_roN sl35 rfl rfl rfl rfl (by omega))) rfl ?_
     refine D (tm' := [(19, _)]) ⟨rfl, trivial⟩ (DStep.yields (Yields.load_rop_one kd32 rfl (rowsR_at hx) rfl)) rfl ?_
     refine D (tm' := [(1, _)]) ⟨rfl, trivial⟩ (DStep.yields (mv rfl)) rfl ?_
     refine D (tm' := [(5, _)]) ⟨rfl, trivial⟩ (DStep.yields (mv rfl)) rfl ?_
     refine D (tm' := [(21, _), (22, _)]) ⟨rfl, rfl, trivial⟩ (DStep.yields (Yields.idx_roN sl35 rfl rfl rfl rfl (by omega))) rfl ?_
     refine D (tm' := [(23, _)]) ⟨rfl, trivial⟩ (DStep.yields (Yields.load_rop_one kd32 rfl (rowsR_at hx) rfl)) rfl ?_
     refine D (tm' := [(20, _), (24, _)]) ⟨rfl, rfl, trivial⟩ (DStep.callro (sSameInts_AF x (hs x (List.mem_of_getElem? hx))) rfl rfl) rfl ?_
     refine D (tm' := [(25, _)]) ⟨rfl, trivial⟩ (DStep.yields (Yields.not rfl)) rfl ?_
     refine DOps.nil ?_
     refine AWP.condT rfl (fun g2 => ?_) (fun g2 => ?_)
     ·
      skip
      simp at g2
     ·
      skip
      refine AWP.skip ?_
      refine AWP.region ?_
      refine Y (mv rfl) rfl ?_
      refine Y (bn rfl rfl (BinR.addI (by omega) (by omega)) rfl) rfl ?_
      refine Y (ass rfl) rfl ?_
      refine AOps.nil ?_
      refine ⟨i + 1, ?_, ?_, ?_⟩
      ·
       show L.length - (i + 1) < L.length - i
       omega
      ·
       show (i + 1) ≤ L.length
       show i + 1 ≤ L.length; omega
      · exact Leads.rows 0 ⟨rfl, rfl, rfl, trivial⟩
    ·
     replace g := of_decide_eq_false g
     refine AWP.exit ?_
     refine AWP.seq ?_
     refine AWP.region ?_
     refine Y (ass rfl) rfl ?_
     refine AOps.nil ?_
     refine AWP.ret ⟨.inl rfl, ?_⟩
     exact RetIs.oneV rfl rfl (by (rfl) <;> rfl)
end Go.Proofs.YteieleejhbljfaaGreat
