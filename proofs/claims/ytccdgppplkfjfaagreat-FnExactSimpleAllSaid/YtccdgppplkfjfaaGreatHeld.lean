/- Trees that are given back: the marks are read; equality. -/
import Derived.Test.YtccdgppplkfjfaaGreatOwn
namespace Go.Proofs.YtccdgppplkfjfaaGreat
open Go Go.Ax Go.Proofs
set_option linter.unusedVariables false
set_option linter.unusedSimpArgs false
set_option maxRecDepth 20000
theorem mark_at {ks : List Tr} {m m' i : Nat} {kd nm : Int} {t : ByteArray} {kk : List Tr} (h1 : (markL ks m).1.drop i = (markL (Tr.mk kd nm t kk :: ks.drop (i + 1)) m').1) : (markL ks m).1[i]? = some (.mk m' ((m' + 1 : Nat) : Int) (markTxt (m' + 2)) (markL kk (m' + 3)).1) := by
  rw [markL, markT] at h1
  have := congrArg (fun l => l[0]?) h1
  simpa [List.getElem?_drop] using this
theorem mark_TExpr (kd nm : Int) (t : ByteArray) (ks : List Tr) (m : Nat) (B : Option Nat) (hm : (m : Int) + 3 * sizeTs ks ≤ 9000000000000000) (hb : (Tr.mk kd nm t ks).bnd 1000000) :
    FnH 10 [(B, ⟨4, Tr.avXs Tr.nosp ks⟩)] [openT B (.mk kd nm t ks), int m] (fun r hp' => r = int (((markL ks m).2 : Nat) : Int) ∧ hp' = [(B, ⟨4, Tr.avXs Tr.nosp (markL ks m).1⟩)]) := by
  have h := mark_XExpr Tr.nosp kd nm t ks m B hm hb
  simp only [List.append_nil] at h
  refine AH.mono h fun r hp' q => ?_
  obtain ⟨rfl, rfl⟩ := q
  exact ⟨rfl, by rw [List.append_nil]⟩
theorem heldS_ofExpr (ks : List Tr) (hv : ∀ k ∈ ks, ∀ m : Nat, (m : Int) + 3 * sizeTs k.kids ≤ 9000000000000000 → k.bnd 1000000 → Fn 23 [.ro 4 (Tr.avs (markL k.kids m).1) [] false, int m] (int (((markL k.kids m).2 : Nat) : Int)))
    (m : Nat) (hm : (m : Int) + 3 * sizeTs ks ≤ 9000000000000000) (hk : Tr.bnds 1000000 ks) (hl : ks.length ≤ 1000000) : Fn 23 [.ro 4 (Tr.avs (markL ks m).1) [] false, int m] (int (((markL ks m).2 : Nat) : Int)) := by
  have hML := markL_length ks m
  have hla := Tr.avs_length (markL ks m).1
  refine AF.intro Tryz.func23 nm23 rfl rfl rfl rfl fun w0 ok0 => ?_
  refine AWP.seq ?_
  refine AWP.region ?_
  refine Y (ass rfl) rfl ?_
  refine AOps.nil ?_
  refine AWP.seq ?_
  refine AWP.seq ?_
  refine AWP.region ?_
  refine Y (ass rfl) rfl ?_
  refine AOps.nil ?_
  refine AWP.block ?_
  refine AWP.loopV (α := Nat × Nat) (fun pp : Nat × Nat => match pp with | (i, m') => ⟨[(0, .ro 4 (Tr.avs (markL ks m).1) [] false), (1, int m'), (5, int i)], []⟩) (fun pp : Nat × Nat => match pp with | (i, m') => i ≤ ks.length ∧ (m' : Int) + 3 * sizeTs (ks.drop i) ≤ 9000000000000000 ∧ (markL (ks.drop i) m').2 = (markL ks m).2 ∧ (markL ks m).1.drop i = (markL (ks.drop i) m').1) (fun pp : Nat × Nat => match pp with | (i, m') => ks.length - i) ((0, m)) ?_ ?_ ?_
  · exact Leads.rows 0 ⟨rfl, rfl, rfl, trivial⟩
  ·
   show 0 ≤ ks.length ∧ (m : Int) + 3 * sizeTs (ks.drop 0) ≤ 9000000000000000 ∧ (markL (ks.drop 0) m).2 = (markL ks m).2 ∧ (markL ks m).1.drop 0 = (markL (ks.drop 0) m).1
   exact ⟨Nat.zero_le _, by rw [List.drop_zero]; exact hm, by rw [List.drop_zero], by rw [List.drop_zero, List.drop_zero]⟩
  ·
   rintro ⟨i, m'⟩ hinv
   replace hinv : i ≤ ks.length ∧ (m' : Int) + 3 * sizeTs (ks.drop i) ≤ 9000000000000000 ∧ (markL (ks.drop i) m').2 = (markL ks m).2 ∧ (markL ks m).1.drop i = (markL (ks.drop i) m').1 := hinv
   show AWP _ _ _ _ ⟨[(0, .ro 4 (Tr.avs (markL ks m).1) [] false), (1, int m'), (5, int i)], []⟩
   refine AWP.seq ?_
   refine AWP.seq ?_
   refine AWP.region ?_
   obtain ⟨hi, hb, h2, h1⟩ := hinv
   refine Y (mv rfl) rfl ?_
   refine Y (mv rfl) rfl ?_
   refine Y (Yields.len_ro sl26 rfl) rfl ?_
   refine Y (bn rfl rfl BinR.lss rfl) rfl ?_
   refine AOps.nil ?_
   refine AWP.condT rfl (fun g => ?_) (fun g => ?_)
   ·
    replace g := of_decide_eq_true g
    have hlt : i < ks.length := by omega
    obtain ⟨k, hk1, hd⟩ := drop_at hlt
    obtain ⟨kd, nm, t, kk⟩ := k
    have hb0 := hb
    rw [hd, sizeTs, sizeT] at hb0
    have hps := sizeTs_pos kk
    have hps2 := sizeTs_pos (ks.drop (i + 1))
    have hle := markL_le kk (m' + 3)
    have hbk := Tr.bnds_get hk hk1
    rw [hd] at h1 h2
    have hat := mark_at h1
    rw [markL, markT] at h1 h2
    refine AWP.skip ?_
    refine AWP.seq ?_
    refine AWP.block ?_
    refine AWP.seq ?_
    refine AWP.seq ?_
    refine AWP.region ?_
    refine Y (mv rfl) rfl ?_
    refine Y (mv rfl) rfl ?_
    refine Y (Yields.idx_roN sl26 rfl rfl rfl rfl (by omega)) rfl ?_
    refine Y (Yields.fieldAddr_rop fo28_0 rfl) rfl ?_
    refine Y (Yields.load_rop_field kd3 rfl rfl (Tr.avs_at hat) rfl rfl) rfl ?_
    refine Y (mv rfl) rfl ?_
    refine Y (bn rfl rfl BinR.neq rfl) rfl ?_
    refine AOps.nil ?_
    refine AWP.condT rfl (fun c1 => ?_) (fun c1 => ?_)
    ·
     replace c1 := bne_iff_ne.1 c1
     exact absurd rfl c1
    ·
     replace c1 := bne_eq_false_iff_eq.1 c1
     refine AWP.skip ?_
     refine AWP.seq ?_
     refine AWP.region ?_
     refine Y (mv rfl) rfl ?_
     refine Y (bn rfl rfl (BinR.addI (by omega) (by omega)) rfl) rfl ?_
     refine Y (ass rfl) rfl ?_
     refine AOps.nil ?_
     refine AWP.seq ?_
     refine AWP.seq ?_
     refine AWP.region ?_
     refine Y (mv rfl) rfl ?_
     refine Y (mv rfl) rfl ?_
     refine Y (Yields.idx_roN sl26 rfl rfl rfl rfl (by omega)) rfl ?_
     refine Y (Yields.fieldAddr_rop fo28_1 rfl) rfl ?_
     refine Y (Yields.load_rop_field kd3 rfl rfl (Tr.avs_at hat) rfl rfl) rfl ?_
     refine Y (mv rfl) rfl ?_
     refine Y (bn rfl rfl BinR.neq rfl) rfl ?_
     refine AOps.nil ?_
     refine AWP.condT rfl (fun c2 => ?_) (fun c2 => ?_)
     ·
      replace c2 := bne_iff_ne.1 c2
      exact absurd rfl c2
     ·
      replace c2 := bne_eq_false_iff_eq.1 c2
      refine AWP.skip ?_
      refine AWP.seq ?_
      refine AWP.region ?_
      refine Y (mv rfl) rfl ?_
      refine Y (bn rfl rfl (BinR.addI (by omega) (by omega)) rfl) rfl ?_
      refine Y (ass rfl) rfl ?_
      refine AOps.nil ?_
      refine AWP.seq ?_
      refine AWP.seq ?_
      refine AWP.prune (tm' := [(0, _), (1, _), (5, _), (9, _), (18, _), (27, _)]) ⟨rfl, rfl, rfl, rfl, rfl, rfl, trivial⟩ ?_
      refine AWP.drawn mixed rfl rfl ?_
      refine D (tm' := [(0, _)]) ⟨rfl, trivial⟩ (DStep.yields (mv rfl)) rfl ?_
      refine D (tm' := [(5, _)]) ⟨rfl, trivial⟩ (DStep.yields (mv rfl)) rfl ?_
      refine D (tm' := [(30, _), (31, _)]) ⟨rfl, rfl, trivial⟩ (DStep.yields (Yields.idx_roN sl26 rfl rfl rfl rfl (by omega))) rfl ?_
      refine D (tm' := [(32, _)]) ⟨rfl, trivial⟩ (DStep.yields (Yields.fieldAddr_rop fo28_2 rfl)) rfl ?_
      refine D (tm' := [(33, _)]) ⟨rfl, trivial⟩ (DStep.yields (Yields.load_rop_field kd9 rfl rfl (Tr.avs_at hat) rfl rfl)) rfl ?_
      refine D (tm' := [(1, _)]) ⟨rfl, trivial⟩ (DStep.yields (mv rfl)) rfl ?_
      refine D (tm' := [(35, _)]) ⟨rfl, trivial⟩ (DStep.callro (markText_AF (m' + 2) (by omega)) rfl rfl) rfl ?_
      refine D (tm' := [(34, _), (36, _)]) ⟨rfl, rfl, trivial⟩ (DStep.yields (bn rfl rfl BinR.sneq rfl)) rfl ?_
      refine DOps.nil ?_
      refine AWP.condT rfl (fun c3 => ?_) (fun c3 => ?_)
      ·
       replace c3 := of_decide_eq_true c3
       exact absurd rfl c3
      ·
       replace c3 := Decidable.of_not_not (of_decide_eq_false c3)
       refine AWP.skip ?_
       refine AWP.seq ?_
       refine AWP.region ?_
       refine Y (mv rfl) rfl ?_
       refine Y (bn rfl rfl (BinR.addI (by omega) (by omega)) rfl) rfl ?_
       refine Y (ass rfl) rfl ?_
       refine AOps.nil ?_
       refine AWP.seq ?_
       refine AWP.region ?_
       refine Y (mv rfl) rfl ?_
       refine Y (mv rfl) rfl ?_
       refine Y (Yields.idx_roN sl26 rfl rfl rfl rfl (by omega)) rfl ?_
       refine Y (Yields.fieldAddr_rop fo28_3 rfl) rfl ?_
       refine Y (Yields.load_rop_field kd26 rfl rfl (Tr.avs_at hat) rfl rfl) rfl ?_
       refine Y (mv rfl) rfl ?_
       refine AOps.callro (hv _ (List.mem_of_getElem? hk1) (m' + 3) (by simp only [Tr.kids]; omega) hbk) rfl rfl rfl ?_
       refine Y (ass rfl) rfl ?_
       refine AOps.nil ?_
       refine AWP.seq ?_
       refine AWP.region ?_
       refine Y (mv rfl) rfl ?_
       refine Y (bn rfl rfl BinR.lss rfl) rfl ?_
       refine AOps.nil ?_
       refine AWP.condT rfl (fun c4 => ?_) (fun c4 => ?_)
       ·
        replace c4 := of_decide_eq_true c4
        omega
       ·
        replace c4 := of_decide_eq_false c4
        refine AWP.skip ?_
        refine AWP.region ?_
        refine Y (mv rfl) rfl ?_
        refine Y (bn rfl rfl (BinR.addI (by omega) (by omega)) rfl) rfl ?_
        refine Y (ass rfl) rfl ?_
        refine AOps.nil ?_
        refine ⟨(i + 1, (markL kk (m' + 3)).2), ?_, ?_, ?_⟩
        ·
         show ks.length - (i + 1) < ks.length - i
         omega
        ·
         show (i + 1) ≤ ks.length ∧ (((markL kk (m' + 3)).2) : Int) + 3 * sizeTs (ks.drop (i + 1)) ≤ 9000000000000000 ∧ (markL (ks.drop (i + 1)) ((markL kk (m' + 3)).2)).2 = (markL ks m).2 ∧ (markL ks m).1.drop (i + 1) = (markL (ks.drop (i + 1)) ((markL kk (m' + 3)).2)).1
         refine ⟨by omega, by omega, h2, ?_⟩
         have := congrArg (List.drop 1) h1
         simpa [List.drop_drop] using this
        · exact Leads.rows 0 ⟨rfl, rfl, rfl, trivial⟩
   ·
    replace g := of_decide_eq_false g
    have hi' : i = ks.length := by omega
    subst hi'
    rw [List.drop_length, markL] at h2
    refine AWP.exit ?_
    refine AWP.seq ?_
    refine AWP.region ?_
    refine Y (mv rfl) rfl ?_
    refine Y (ass rfl) rfl ?_
    refine AOps.nil ?_
    refine AWP.ret ⟨.inl rfl, ?_⟩
    exact RetIs.oneV rfl rfl (by (rw [← h2]) <;> rfl)
theorem heldS_XExpr (k : Tr) : ∀ m : Nat, (m : Int) + 3 * sizeTs k.kids ≤ 9000000000000000 → k.bnd 1000000 → Fn 23 [.ro 4 (Tr.avs (markL k.kids m).1) [] false, int m] (int (((markL k.kids m).2 : Nat) : Int)) := by
  induction k using Tr.ind
  rename_i kd nm t ks ih
  intro m hm hb
  simp only [Tr.bnd] at hb
  obtain ⟨hb1, hb2, hb3⟩ := hb
  exact heldS_ofExpr ks ih m hm hb3 hb2
theorem held_XExpr (kd nm : Int) (t : ByteArray) (ks : List Tr) (m : Nat) (hm : (m : Int) + 3 * sizeTs ks ≤ 9000000000000000) (hb : (Tr.mk kd nm t ks).bnd 1000000) : Fn 11 [Tr.av (.mk kd nm t (markL ks m).1), int m] (int (((markL ks m).2 : Nat) : Int)) := by
  refine AF.intro Tryz.func11 nm11 rfl rfl rfl rfl fun w0 ok0 => ?_
  refine AWP.seq ?_
  refine AWP.region ?_
  refine AOps.box rfl rfl rfl rfl fun b1 => ?_
  refine Y (ass rfl) rfl ?_
  refine AOps.nil ?_
  refine AWP.seq ?_
  refine AWP.region ?_
  refine Y (Yields.fieldAddr_ptr fo28_3 rfl) rfl ?_
  refine Y (Yields.load_ptr_field (j := 0) kd26 rfl rfl rfl rfl rfl rfl rfl) rfl ?_
  refine Y (mv rfl) rfl ?_
  refine AOps.callro (heldS_XExpr (.mk kd nm t ks) m hm hb) rfl rfl rfl ?_
  refine Y (ass rfl) rfl ?_
  refine AOps.nil ?_
  refine AWP.seq ?_
  refine AWP.seq ?_
  refine AWP.region ?_
  refine Y (mv rfl) rfl ?_
  refine Y (bn rfl rfl BinR.lss rfl) rfl ?_
  refine AOps.nil ?_
  refine AWP.condT rfl (fun c => ?_) (fun c => ?_)
  ·
   replace c := of_decide_eq_true c
   omega
  ·
   replace c := of_decide_eq_false c
   refine AWP.skip ?_
   refine AWP.seq ?_
   refine AWP.region ?_
   refine Y (mv rfl) rfl ?_
   refine Y (ass rfl) rfl ?_
   refine AOps.nil ?_
   refine AWP.ret ⟨.inl rfl, ?_⟩
   exact RetIs.oneV rfl rfl (by (rfl) <;> rfl)
theorem gqS_ofExpr (ks : List Tr) (hv : ∀ k ∈ ks, Fn 8 [k.av, k.av] (bool true)) (hl : ks.length ≤ 1000000) : Fn 20 [.ro 4 (Tr.avs ks) [] false, .ro 4 (Tr.avs ks) [] false] (bool true) := by
  have hla := Tr.avs_length ks
  refine AF.intro Tryz.func20 nm20 rfl rfl rfl rfl fun w0 ok0 => ?_
  refine AWP.seq ?_
  refine AWP.region ?_
  refine Y (ass rfl) rfl ?_
  refine AOps.nil ?_
  refine AWP.seq ?_
  refine AWP.seq ?_
  refine AWP.region ?_
  refine Y (mv rfl) rfl ?_
  refine Y (Yields.len_ro sl26 rfl) rfl ?_
  refine Y (mv rfl) rfl ?_
  refine Y (Yields.len_ro sl26 rfl) rfl ?_
  refine Y (bn rfl rfl BinR.neq rfl) rfl ?_
  refine AOps.nil ?_
  refine AWP.condT rfl (fun h => ?_) (fun h => ?_)
  ·
   replace h := bne_iff_ne.1 h
   exact absurd rfl h
  ·
   replace h := bne_eq_false_iff_eq.1 h
   refine AWP.skip ?_
   refine AWP.seq ?_
   refine AWP.seq ?_
   refine AWP.region ?_
   refine Y (ass rfl) rfl ?_
   refine AOps.nil ?_
   refine AWP.block ?_
   refine AWP.loopV (α := Nat) (fun i : Nat => ⟨[(0, .ro 4 (Tr.avs ks) [] false), (1, .ro 4 (Tr.avs ks) [] false), (5, int i)], []⟩) (fun i : Nat => i ≤ ks.length) (fun i : Nat => ks.length - i) (0) ?_ ?_ ?_
   · exact Leads.rows 0 ⟨rfl, rfl, rfl, trivial⟩
   ·
    show 0 ≤ ks.length
    exact Nat.zero_le _
   ·
    rintro i hinv
    refine AWP.seq ?_
    refine AWP.seq ?_
    refine AWP.region ?_
    refine Y (mv rfl) rfl ?_
    refine Y (mv rfl) rfl ?_
    refine Y (Yields.len_ro sl26 rfl) rfl ?_
    refine Y (bn rfl rfl BinR.lss rfl) rfl ?_
    refine AOps.nil ?_
    refine AWP.condT rfl (fun g => ?_) (fun g => ?_)
    ·
     replace g := of_decide_eq_true g
     obtain ⟨k, hk, hd⟩ := drop_at (l := ks) (i := i) (by omega)
     refine AWP.skip ?_
     refine AWP.seq ?_
     refine AWP.block ?_
     refine AWP.seq ?_
     refine AWP.prune (tm' := [(0, _), (1, _), (5, _), (14, _)]) ⟨rfl, rfl, rfl, rfl, trivial⟩ ?_
     refine AWP.drawn mixed rfl rfl ?_
     refine D (tm' := [(0, _)]) ⟨rfl, trivial⟩ (DStep.yields (mv rfl)) rfl ?_
     refine D (tm' := [(5, _)]) ⟨rfl, trivial⟩ (DStep.yields (mv rfl)) rfl ?_
     refine D (tm' := [(17, _), (18, _)]) ⟨rfl, rfl, trivial⟩ (DStep.yields (Yields.idx_roN sl26 rfl rfl rfl rfl (by omega))) rfl ?_
     refine D (tm' := [(19, _)]) ⟨rfl, trivial⟩ (DStep.yields (Yields.load_rop_aggV kd28 rfl (Tr.avs_at hk) (Tr.av_agg k))) rfl ?_
     refine D (tm' := [(1, _)]) ⟨rfl, trivial⟩ (DStep.yields (mv rfl)) rfl ?_
     refine D (tm' := [(5, _)]) ⟨rfl, trivial⟩ (DStep.yields (mv rfl)) rfl ?_
     refine D (tm' := [(21, _), (22, _)]) ⟨rfl, rfl, trivial⟩ (DStep.yields (Yields.idx_roN sl26 rfl rfl rfl rfl (by omega))) rfl ?_
     refine D (tm' := [(23, _)]) ⟨rfl, trivial⟩ (DStep.yields (Yields.load_rop_aggV kd28 rfl (Tr.avs_at hk) (Tr.av_agg k))) rfl ?_
     refine D (tm' := [(20, _), (24, _)]) ⟨rfl, rfl, trivial⟩ (DStep.callro (hv k (List.mem_of_getElem? hk)) rfl rfl) rfl ?_
     refine D (tm' := [(25, _)]) ⟨rfl, trivial⟩ (DStep.yields (Yields.not rfl)) rfl ?_
     refine DOps.nil ?_
     refine AWP.condT rfl (fun g2 => ?_) (fun g2 => ?_)
     ·
      skip
      simp at g2
     ·
      skip
      refine AWP.skip ?_
      refine AWP.region ?_
      refine Y (mv rfl) rfl ?_
      refine Y (bn rfl rfl (BinR.addI (by omega) (by omega)) rfl) rfl ?_
      refine Y (ass rfl) rfl ?_
      refine AOps.nil ?_
      refine ⟨i + 1, ?_, ?_, ?_⟩
      ·
       show ks.length - (i + 1) < ks.length - i
       omega
      ·
       show (i + 1) ≤ ks.length
       omega
      · exact Leads.rows 0 ⟨rfl, rfl, rfl, trivial⟩
    ·
     replace g := of_decide_eq_false g
     refine AWP.exit ?_
     refine AWP.seq ?_
     refine AWP.region ?_
     refine Y (ass rfl) rfl ?_
     refine AOps.nil ?_
     refine AWP.ret ⟨.inl rfl, ?_⟩
     exact RetIs.oneV rfl rfl (by (rfl) <;> rfl)
theorem gq_XExpr (k : Tr) : k.bnd 1000000 → Fn 8 [k.av, k.av] (bool true) := by
  induction k using Tr.ind
  rename_i kd nm t ks ih
  intro hk
  simp only [Tr.bnd] at hk
  obtain ⟨hk1, hk2, hk3⟩ := hk
  refine AF.intro Tryz.func8 nm8 rfl rfl rfl rfl fun w0 ok0 => ?_
  refine AWP.seq ?_
  refine AWP.region ?_
  refine AOps.box rfl rfl rfl rfl fun b1 => ?_
  refine AOps.box rfl rfl rfl rfl fun b2 => ?_
  refine Y (ass rfl) rfl ?_
  refine AOps.nil ?_
  refine AWP.seq ?_
  refine AWP.seq ?_
  refine AWP.region ?_
  refine Y (Yields.fieldAddr_ptr fo28_0 rfl) rfl ?_
  refine Y (Yields.load_ptr_field (j := 1) kd3 rfl rfl rfl rfl rfl rfl rfl) rfl ?_
  refine Y (Yields.fieldAddr_ptr fo28_0 rfl) rfl ?_
  refine Y (Yields.load_ptr_field (j := 0) kd3 rfl rfl rfl rfl rfl rfl rfl) rfl ?_
  refine Y (bn rfl rfl BinR.neq rfl) rfl ?_
  refine AOps.nil ?_
  refine AWP.condT rfl (fun h1 => ?_) (fun h1 => ?_)
  ·
   replace h1 := bne_iff_ne.1 h1
   exact absurd rfl h1
  ·
   replace h1 := bne_eq_false_iff_eq.1 h1
   refine AWP.skip ?_
   refine AWP.seq ?_
   refine AWP.seq ?_
   refine AWP.region ?_
   refine Y (Yields.fieldAddr_ptr fo28_1 rfl) rfl ?_
   refine Y (Yields.load_ptr_field (j := 1) kd3 rfl rfl rfl rfl rfl rfl rfl) rfl ?_
   refine Y (Yields.fieldAddr_ptr fo28_1 rfl) rfl ?_
   refine Y (Yields.load_ptr_field (j := 0) kd3 rfl rfl rfl rfl rfl rfl rfl) rfl ?_
   refine Y (bn rfl rfl BinR.neq rfl) rfl ?_
   refine AOps.nil ?_
   refine AWP.condT rfl (fun h2 => ?_) (fun h2 => ?_)
   ·
    replace h2 := bne_iff_ne.1 h2
    exact absurd rfl h2
   ·
    replace h2 := bne_eq_false_iff_eq.1 h2
    refine AWP.skip ?_
    refine AWP.seq ?_
    refine AWP.seq ?_
    refine AWP.region ?_
    refine Y (Yields.fieldAddr_ptr fo28_2 rfl) rfl ?_
    refine Y (Yields.load_ptr_field (j := 1) kd9 rfl rfl rfl rfl rfl rfl rfl) rfl ?_
    refine Y (Yields.fieldAddr_ptr fo28_2 rfl) rfl ?_
    refine Y (Yields.load_ptr_field (j := 0) kd9 rfl rfl rfl rfl rfl rfl rfl) rfl ?_
    refine Y (bn rfl rfl BinR.sneq rfl) rfl ?_
    refine AOps.nil ?_
    refine AWP.condT rfl (fun h3 => ?_) (fun h3 => ?_)
    ·
     replace h3 := of_decide_eq_true h3
     exact absurd rfl h3
    ·
     replace h3 := Decidable.of_not_not (of_decide_eq_false h3)
     refine AWP.skip ?_
     refine AWP.seq ?_
     refine AWP.seq ?_
     refine AWP.region ?_
     refine Y (Yields.fieldAddr_ptr fo28_3 rfl) rfl ?_
     refine Y (Yields.load_ptr_field (j := 1) kd26 rfl rfl rfl rfl rfl rfl rfl) rfl ?_
     refine Y (Yields.fieldAddr_ptr fo28_3 rfl) rfl ?_
     refine Y (Yields.load_ptr_field (j := 0) kd26 rfl rfl rfl rfl rfl rfl rfl) rfl ?_
     refine AOps.callro (gqS_ofExpr ks (fun k hk => ih k hk (Tr.bnds_mem hk3 k hk)) hk2) rfl rfl rfl ?_
     refine Y (Yields.not rfl) rfl ?_
     refine AOps.nil ?_
     refine AWP.condT rfl (fun h4 => ?_) (fun h4 => ?_)
     ·
      skip
      simp at h4
     ·
      skip
      refine AWP.skip ?_
      refine AWP.seq ?_
      refine AWP.region ?_
      refine Y (ass rfl) rfl ?_
      refine AOps.nil ?_
      refine AWP.ret ⟨.inl rfl, ?_⟩
      exact RetIs.oneV rfl rfl (by (rfl) <;> rfl)
end Go.Proofs.YtccdgppplkfjfaaGreat
