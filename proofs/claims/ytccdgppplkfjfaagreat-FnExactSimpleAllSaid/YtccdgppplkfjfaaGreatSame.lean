/- Trees compared by both programs. -/
import Derived.Test.YtccdgppplkfjfaaGreatRd
namespace Go.Proofs.YtccdgppplkfjfaaGreat
open Go Go.Ax Go.Proofs
set_option linter.unusedVariables false
set_option linter.unusedSimpArgs false
set_option maxRecDepth 20000

theorem equalFunc_ofValue (us vs : List Tr) (hv : ∀ k ∈ us, ∀ k' : Tr, Fn 87 [k.av, k'.av] (bool (sameT k k'))) (hl : us.length ≤ 3000000) :
    Fn 94 [.ro 4 (Tr.avs us) [] false, .ro 4 (Tr.avs vs) [] false, .fn 87 []] (bool (sameTs us vs)) := by
  have hla := Tr.avs_length us
  have hlb := Tr.avs_length vs
  refine AF.intro Tryz.func94 nm94 rfl rfl rfl rfl fun w0 ok0 => ?_
  refine AWP.seq ?_
  refine AWP.region ?_
  refine Y (ass rfl) rfl ?_
  refine AOps.nil ?_
  refine AWP.seq ?_
  refine AWP.seq ?_
  refine AWP.region ?_
  refine Y (mv rfl) rfl ?_
  refine Y (Yields.len_ro sl63 rfl) rfl ?_
  refine Y (mv rfl) rfl ?_
  refine Y (Yields.len_ro sl63 rfl) rfl ?_
  refine Y (bn rfl rfl BinR.neq rfl) rfl ?_
  refine AOps.nil ?_
  refine AWP.condT rfl (fun h => ?_) (fun h => ?_)
  ·
   replace h := bne_iff_ne.1 h
   refine AWP.seq ?_
   refine AWP.region ?_
   refine Y (ass rfl) rfl ?_
   refine AOps.nil ?_
   refine AWP.ret ⟨.inl rfl, ?_⟩
   exact RetIs.oneV rfl rfl (by (rw [sameTs_len (by omega)]) <;> rfl)
  ·
   replace h := bne_eq_false_iff_eq.1 h
   refine AWP.skip ?_
   refine AWP.seq ?_
   refine AWP.seq ?_
   refine AWP.region ?_
   refine Y (mv rfl) rfl ?_
   refine Y (Yields.len_ro sl63 rfl) rfl ?_
   refine Y (mv rfl) rfl ?_
   refine AOps.nil ?_
   refine AWP.block ?_
   refine AWP.loopV (α := Nat) (fun i : Nat => ⟨[(1, .ro 4 (Tr.avs vs) [] false), (2, .fn 87 []), (15, .ro 4 (Tr.avs us) [] false), (16, int (Tr.avs us).length), (17, int i)], []⟩) (fun i : Nat => i ≤ us.length ∧ sameTs (us.drop i) (vs.drop i) = sameTs us vs) (fun i : Nat => us.length - i) (0) ?_ ?_ ?_
   · exact Leads.rows 0 ⟨rfl, rfl, rfl, rfl, rfl, trivial⟩
   ·
    show 0 ≤ us.length ∧ sameTs (us.drop 0) (vs.drop 0) = sameTs us vs
    exact ⟨Nat.zero_le _, rfl⟩
   ·
    rintro i hinv
    refine AWP.seq ?_
    refine AWP.region ?_
    obtain ⟨hi, hp⟩ := hinv
    refine Y (bn rfl rfl BinR.lss rfl) rfl ?_
    refine AOps.nil ?_
    refine AWP.seq ?_
    refine AWP.condT rfl (fun g => ?_) (fun g => ?_)
    ·
     replace g := of_decide_eq_true g
     have hlt : i < us.length := by omega
     obtain ⟨k, hk, hd⟩ := drop_at hlt
     obtain ⟨k', hk', hd'⟩ := drop_at (l := vs) (i := i) (by omega)
     rw [hd, hd', sameTs] at hp
     obtain ⟨ckd, cnm, ct, cks⟩ := k
     obtain ⟨ckd', cnm', ct', cks'⟩ := k'
     refine AWP.skip ?_
     refine AWP.seq ?_
     refine AWP.block ?_
     refine AWP.seq ?_
     refine AWP.region ?_
     refine Y (mv rfl) rfl ?_
     refine Y (Yields.idx_roN sl63 rfl rfl rfl rfl (by omega)) rfl ?_
     refine Y (Yields.load_rop_aggV kd65 rfl (Tr.avs_at hk) rfl) rfl ?_
     refine AOps.alloc rfl z65 rfl rfl fun b1 => ?_
     refine Y (ass rfl) rfl ?_
     refine AOps.store (j := 0) kd65 rfl rfl rfl rfl rfl rfl ?_
     refine AOps.nil ?_
     refine AWP.seq ?_
     refine AWP.region ?_
     refine Y (mv rfl) rfl ?_
     refine Y (mv rfl) rfl ?_
     refine Y (Yields.idx_roN sl63 rfl rfl rfl rfl (by omega)) rfl ?_
     refine Y (Yields.load_rop_aggV kd65 rfl (Tr.avs_at hk') rfl) rfl ?_
     refine AOps.alloc rfl z65 rfl rfl fun b2 => ?_
     refine AOps.store (j := 0) kd65 rfl rfl rfl rfl rfl rfl ?_
     refine AOps.nil ?_
     refine AWP.seq ?_
     refine AWP.region ?_
     refine Y (mv rfl) rfl ?_
     refine Y (Yields.load_ptr_agg (j := 1) kd65 rfl rfl rfl rfl) rfl ?_
     refine Y (Yields.load_ptr_agg (j := 0) kd65 rfl rfl rfl rfl) rfl ?_
     refine AOps.step (DStep.callf (hv _ (List.mem_of_getElem? hk) (.mk ckd' cnm' ct' cks')) rfl rfl (WkL.refl [Tr.av (.mk ckd cnm ct cks), Tr.av (.mk ckd' cnm' ct' cks')]) rfl) rfl ?_
     refine Y (Yields.not rfl) rfl ?_
     refine AOps.nil ?_
     refine AWP.condT rfl (fun g2 => ?_) (fun g2 => ?_)
     ·
      skip
      refine AWP.seq ?_
      refine AWP.region ?_
      have g2 : sameT (.mk ckd cnm ct cks) (.mk ckd' cnm' ct' cks') = false := by simpa using g2
      refine Y (ass rfl) rfl ?_
      refine AOps.nil ?_
      refine AWP.ret ⟨.inl rfl, ?_⟩
      exact RetIs.oneV rfl rfl (by (rw [← hp, g2]) <;> rfl)
     ·
      skip
      have g2 : sameT (.mk ckd cnm ct cks) (.mk ckd' cnm' ct' cks') = true := by simpa using g2
      refine AWP.skip ?_
      refine AWP.region ?_
      refine Y (bn rfl rfl (BinR.addI (by omega) (by omega)) rfl) rfl ?_
      refine Y (mv rfl) rfl ?_
      refine AOps.nil ?_
      refine ⟨i + 1, ?_, ?_, ?_⟩
      ·
       show us.length - (i + 1) < us.length - i
       omega
      ·
       show (i + 1) ≤ us.length ∧ sameTs (us.drop (i + 1)) (vs.drop (i + 1)) = sameTs us vs
       exact ⟨hlt, by rw [← hp, g2, Bool.true_and]⟩
      · exact Leads.rows 2 ⟨rfl, rfl, rfl, rfl, rfl, trivial⟩
    ·
     replace g := of_decide_eq_false g
     rw [List.drop_eq_nil_of_le (by omega), List.drop_eq_nil_of_le (by omega), sameTs] at hp
     refine AWP.exit ?_
     refine AWP.seq ?_
     refine AWP.region ?_
     refine Y (ass rfl) rfl ?_
     refine AOps.nil ?_
     refine AWP.ret ⟨.inl rfl, ?_⟩
     exact RetIs.oneV rfl rfl (by (rw [← hp]) <;> rfl)
theorem isame_AFValue (k : Tr) : ∀ k' : Tr, k.bnd 1000000 → Fn 87 [k.av, k'.av] (bool (sameT k k')) := by
  induction k using Tr.ind
  rename_i kd nm t ks ih
  intro k' hk
  obtain ⟨kd', nm', t', ks'⟩ := k'
  simp only [Tr.bnd] at hk
  obtain ⟨hk1, hk2, hk3⟩ := hk
  have hS := equalFunc_ofValue ks ks' (fun k hk k' => ih k hk k' (Tr.bnds_mem hk3 k hk)) (by omega)
  refine AF.intro Tryz.func87 nm87 rfl rfl rfl rfl fun w0 ok0 => ?_
  refine AWP.seq ?_
  refine AWP.region ?_
  refine AOps.box rfl rfl rfl rfl fun b1 => ?_
  refine AOps.box rfl rfl rfl rfl fun b2 => ?_
  refine Y (ass rfl) rfl ?_
  refine AOps.nil ?_
  refine AWP.seq ?_
  refine AWP.region ?_
  refine Y (Yields.fieldAddr_ptr fo65_0 rfl) rfl ?_
  refine Y (Yields.load_ptr_field (j := 1) kd3 rfl rfl rfl rfl rfl rfl rfl) rfl ?_
  refine Y (Yields.fieldAddr_ptr fo65_0 rfl) rfl ?_
  refine Y (Yields.load_ptr_field (j := 0) kd3 rfl rfl rfl rfl rfl rfl rfl) rfl ?_
  refine Y (bn rfl rfl BinR.eql rfl) rfl ?_
  refine Y (mv rfl) rfl ?_
  refine AOps.split 10 rfl (fun h1 => ?_) (fun h1 => ?_)
  ·
   replace h1 := eq_of_beq h1
   refine AOps.on rfl rfl ?_
   refine Y (Yields.fieldAddr_ptr fo65_1 rfl) rfl ?_
   refine AOps.on rfl rfl ?_
   refine Y (Yields.load_ptr_field (j := 1) kd3 rfl rfl rfl rfl rfl rfl rfl) rfl ?_
   refine AOps.on rfl rfl ?_
   refine Y (Yields.fieldAddr_ptr fo65_1 rfl) rfl ?_
   refine AOps.on rfl rfl ?_
   refine Y (Yields.load_ptr_field (j := 0) kd3 rfl rfl rfl rfl rfl rfl rfl) rfl ?_
   refine AOps.on rfl rfl ?_
   refine Y (bn rfl rfl BinR.eql rfl) rfl ?_
   refine Y (Yields.pick_true rfl rfl) rfl ?_
   refine Y (mv rfl) rfl ?_
   refine AOps.split 17 rfl (fun h2 => ?_) (fun h2 => ?_)
   ·
    replace h2 := eq_of_beq h2
    refine AOps.on rfl rfl ?_
    refine Y (Yields.fieldAddr_ptr fo65_2 rfl) rfl ?_
    refine AOps.on rfl rfl ?_
    refine Y (Yields.load_ptr_field (j := 1) kd9 rfl rfl rfl rfl rfl rfl rfl) rfl ?_
    refine AOps.on rfl rfl ?_
    refine Y (Yields.fieldAddr_ptr fo65_2 rfl) rfl ?_
    refine AOps.on rfl rfl ?_
    refine Y (Yields.load_ptr_field (j := 0) kd9 rfl rfl rfl rfl rfl rfl rfl) rfl ?_
    refine AOps.on rfl rfl ?_
    refine Y (bn rfl rfl BinR.seql rfl) rfl ?_
    refine Y (Yields.pick_true rfl rfl) rfl ?_
    refine Y (mv rfl) rfl ?_
    refine AOps.split 24 rfl (fun h3 => ?_) (fun h3 => ?_)
    ·
     replace h3 := of_decide_eq_true h3
     refine AOps.on rfl rfl ?_
     refine Y (Yields.fieldAddr_ptr fo65_3 rfl) rfl ?_
     refine AOps.on rfl rfl ?_
     refine Y (Yields.load_ptr_field (j := 1) kd63 rfl rfl rfl rfl rfl rfl rfl) rfl ?_
     refine AOps.on rfl rfl ?_
     refine Y (Yields.fieldAddr_ptr fo65_3 rfl) rfl ?_
     refine AOps.on rfl rfl ?_
     refine Y (Yields.load_ptr_field (j := 0) kd63 rfl rfl rfl rfl rfl rfl rfl) rfl ?_
     refine AOps.on rfl rfl ?_
     refine AOps.callro (hS) rfl rfl rfl ?_
     refine Y (Yields.pick_true rfl rfl) rfl ?_
     refine Y (ass rfl) rfl ?_
     refine AOps.nil ?_
     refine AWP.ret ⟨.inl rfl, ?_⟩
     exact RetIs.oneV rfl rfl (congrArg (fun b => AV.val (Value.bool b)) (by rw [Bool.eq_iff_iff]; first | (simp [sameT, h1, h2, h3]; done) | (simp [sameT, h1, h2, h3]; omega) | (simp_all [sameT, h1, h2, h3]; done) | (simp_all [sameT, h1, h2, h3]; omega) | (simp_all [sameT, h1, h2, h3]; intros; omega)))
    ·
     replace h3 := of_decide_eq_false h3
     refine AOps.off' rfl rfl rfl rfl ?_
     refine AOps.off' rfl rfl rfl rfl ?_
     refine AOps.off' rfl rfl rfl rfl ?_
     refine AOps.off' rfl rfl rfl rfl ?_
     refine AOps.off' rfl rfl rfl rfl ?_
     refine Y (Yields.pick_false rfl rfl) rfl ?_
     refine Y (ass rfl) rfl ?_
     refine AOps.nil ?_
     refine AWP.ret ⟨.inl rfl, ?_⟩
     exact RetIs.oneV rfl rfl (congrArg (fun b => AV.val (Value.bool b)) (by rw [Bool.eq_iff_iff]; first | (simp [sameT, h3]; done) | (simp [sameT, h3]; omega) | (simp_all [sameT, h3]; done) | (simp_all [sameT, h3]; omega) | (simp_all [sameT, h3]; intros; omega)))
   ·
    replace h2 := ne_of_beq_false h2
    refine AOps.off' rfl rfl rfl rfl ?_
    refine AOps.off' rfl rfl rfl rfl ?_
    refine AOps.off' rfl rfl rfl rfl ?_
    refine AOps.off' rfl rfl rfl rfl ?_
    refine AOps.off' rfl rfl rfl rfl ?_
    refine Y (Yields.pick_false rfl rfl) rfl ?_
    refine Y (mv rfl) rfl ?_
    refine AOps.off' rfl rfl rfl rfl ?_
    refine AOps.off' rfl rfl rfl rfl ?_
    refine AOps.off' rfl rfl rfl rfl ?_
    refine AOps.off' rfl rfl rfl rfl ?_
    refine AOps.off' rfl rfl rfl rfl ?_
    refine Y (Yields.pick_false rfl rfl) rfl ?_
    refine Y (ass rfl) rfl ?_
    refine AOps.nil ?_
    refine AWP.ret ⟨.inl rfl, ?_⟩
    exact RetIs.oneV rfl rfl (congrArg (fun b => AV.val (Value.bool b)) (by rw [Bool.eq_iff_iff]; first | (simp [sameT, h2]; done) | (simp [sameT, h2]; omega) | (simp_all [sameT, h2]; done) | (simp_all [sameT, h2]; omega) | (simp_all [sameT, h2]; intros; omega)))
  ·
   replace h1 := ne_of_beq_false h1
   refine AOps.off' rfl rfl rfl rfl ?_
   refine AOps.off' rfl rfl rfl rfl ?_
   refine AOps.off' rfl rfl rfl rfl ?_
   refine AOps.off' rfl rfl rfl rfl ?_
   refine AOps.off' rfl rfl rfl rfl ?_
   refine Y (Yields.pick_false rfl rfl) rfl ?_
   refine Y (mv rfl) rfl ?_
   refine AOps.off' rfl rfl rfl rfl ?_
   refine AOps.off' rfl rfl rfl rfl ?_
   refine AOps.off' rfl rfl rfl rfl ?_
   refine AOps.off' rfl rfl rfl rfl ?_
   refine AOps.off' rfl rfl rfl rfl ?_
   refine Y (Yields.pick_false rfl rfl) rfl ?_
   refine Y (mv rfl) rfl ?_
   refine AOps.off' rfl rfl rfl rfl ?_
   refine AOps.off' rfl rfl rfl rfl ?_
   refine AOps.off' rfl rfl rfl rfl ?_
   refine AOps.off' rfl rfl rfl rfl ?_
   refine AOps.off' rfl rfl rfl rfl ?_
   refine Y (Yields.pick_false rfl rfl) rfl ?_
   refine Y (ass rfl) rfl ?_
   refine AOps.nil ?_
   refine AWP.ret ⟨.inl rfl, ?_⟩
   exact RetIs.oneV rfl rfl (congrArg (fun b => AV.val (Value.bool b)) (by rw [Bool.eq_iff_iff]; first | (simp [sameT, h1]; done) | (simp [sameT, h1]; omega) | (simp_all [sameT, h1]; done) | (simp_all [sameT, h1]; omega) | (simp_all [sameT, h1]; intros; omega)))
theorem equalFunc_ofExpr (us vs : List Tr) (hv : ∀ k ∈ us, ∀ k' : Tr, Fn 44 [k.av, k'.av] (bool (sameT k k'))) (hl : us.length ≤ 3000000) :
    Fn 69 [.ro 4 (Tr.avs us) [] false, .ro 4 (Tr.avs vs) [] false, .fn 44 []] (bool (sameTs us vs)) := by
  have hla := Tr.avs_length us
  have hlb := Tr.avs_length vs
  refine AF.intro Tryz.func69 nm69 rfl rfl rfl rfl fun w0 ok0 => ?_
  refine AWP.seq ?_
  refine AWP.region ?_
  refine Y (ass rfl) rfl ?_
  refine AOps.nil ?_
  refine AWP.seq ?_
  refine AWP.seq ?_
  refine AWP.region ?_
  refine Y (mv rfl) rfl ?_
  refine Y (Yields.len_ro sl26 rfl) rfl ?_
  refine Y (mv rfl) rfl ?_
  refine Y (Yields.len_ro sl26 rfl) rfl ?_
  refine Y (bn rfl rfl BinR.neq rfl) rfl ?_
  refine AOps.nil ?_
  refine AWP.condT rfl (fun h => ?_) (fun h => ?_)
  ·
   replace h := bne_iff_ne.1 h
   refine AWP.seq ?_
   refine AWP.region ?_
   refine Y (ass rfl) rfl ?_
   refine AOps.nil ?_
   refine AWP.ret ⟨.inl rfl, ?_⟩
   exact RetIs.oneV rfl rfl (by (rw [sameTs_len (by omega)]) <;> rfl)
  ·
   replace h := bne_eq_false_iff_eq.1 h
   refine AWP.skip ?_
   refine AWP.seq ?_
   refine AWP.seq ?_
   refine AWP.region ?_
   refine Y (mv rfl) rfl ?_
   refine Y (Yields.len_ro sl26 rfl) rfl ?_
   refine Y (mv rfl) rfl ?_
   refine AOps.nil ?_
   refine AWP.block ?_
   refine AWP.loopV (α := Nat) (fun i : Nat => ⟨[(1, .ro 4 (Tr.avs vs) [] false), (2, .fn 44 []), (15, .ro 4 (Tr.avs us) [] false), (16, int (Tr.avs us).length), (17, int i)], []⟩) (fun i : Nat => i ≤ us.length ∧ sameTs (us.drop i) (vs.drop i) = sameTs us vs) (fun i : Nat => us.length - i) (0) ?_ ?_ ?_
   · exact Leads.rows 0 ⟨rfl, rfl, rfl, rfl, rfl, trivial⟩
   ·
    show 0 ≤ us.length ∧ sameTs (us.drop 0) (vs.drop 0) = sameTs us vs
    exact ⟨Nat.zero_le _, rfl⟩
   ·
    rintro i hinv
    refine AWP.seq ?_
    refine AWP.region ?_
    obtain ⟨hi, hp⟩ := hinv
    refine Y (bn rfl rfl BinR.lss rfl) rfl ?_
    refine AOps.nil ?_
    refine AWP.seq ?_
    refine AWP.condT rfl (fun g => ?_) (fun g => ?_)
    ·
     replace g := of_decide_eq_true g
     have hlt : i < us.length := by omega
     obtain ⟨k, hk, hd⟩ := drop_at hlt
     obtain ⟨k', hk', hd'⟩ := drop_at (l := vs) (i := i) (by omega)
     rw [hd, hd', sameTs] at hp
     obtain ⟨ckd, cnm, ct, cks⟩ := k
     obtain ⟨ckd', cnm', ct', cks'⟩ := k'
     refine AWP.skip ?_
     refine AWP.seq ?_
     refine AWP.block ?_
     refine AWP.seq ?_
     refine AWP.region ?_
     refine Y (mv rfl) rfl ?_
     refine Y (Yields.idx_roN sl26 rfl rfl rfl rfl (by omega)) rfl ?_
     refine Y (Yields.load_rop_aggV kd28 rfl (Tr.avs_at hk) rfl) rfl ?_
     refine AOps.alloc rfl z28 rfl rfl fun b1 => ?_
     refine Y (ass rfl) rfl ?_
     refine AOps.store (j := 0) kd28 rfl rfl rfl rfl rfl rfl ?_
     refine AOps.nil ?_
     refine AWP.seq ?_
     refine AWP.region ?_
     refine Y (mv rfl) rfl ?_
     refine Y (mv rfl) rfl ?_
     refine Y (Yields.idx_roN sl26 rfl rfl rfl rfl (by omega)) rfl ?_
     refine Y (Yields.load_rop_aggV kd28 rfl (Tr.avs_at hk') rfl) rfl ?_
     refine AOps.alloc rfl z28 rfl rfl fun b2 => ?_
     refine AOps.store (j := 0) kd28 rfl rfl rfl rfl rfl rfl ?_
     refine AOps.nil ?_
     refine AWP.seq ?_
     refine AWP.region ?_
     refine Y (mv rfl) rfl ?_
     refine Y (Yields.load_ptr_agg (j := 1) kd28 rfl rfl rfl rfl) rfl ?_
     refine Y (Yields.load_ptr_agg (j := 0) kd28 rfl rfl rfl rfl) rfl ?_
     refine AOps.step (DStep.callf (hv _ (List.mem_of_getElem? hk) (.mk ckd' cnm' ct' cks')) rfl rfl (WkL.refl [Tr.av (.mk ckd cnm ct cks), Tr.av (.mk ckd' cnm' ct' cks')]) rfl) rfl ?_
     refine Y (Yields.not rfl) rfl ?_
     refine AOps.nil ?_
     refine AWP.condT rfl (fun g2 => ?_) (fun g2 => ?_)
     ·
      skip
      refine AWP.seq ?_
      refine AWP.region ?_
      have g2 : sameT (.mk ckd cnm ct cks) (.mk ckd' cnm' ct' cks') = false := by simpa using g2
      refine Y (ass rfl) rfl ?_
      refine AOps.nil ?_
      refine AWP.ret ⟨.inl rfl, ?_⟩
      exact RetIs.oneV rfl rfl (by (rw [← hp, g2]) <;> rfl)
     ·
      skip
      have g2 : sameT (.mk ckd cnm ct cks) (.mk ckd' cnm' ct' cks') = true := by simpa using g2
      refine AWP.skip ?_
      refine AWP.region ?_
      refine Y (bn rfl rfl (BinR.addI (by omega) (by omega)) rfl) rfl ?_
      refine Y (mv rfl) rfl ?_
      refine AOps.nil ?_
      refine ⟨i + 1, ?_, ?_, ?_⟩
      ·
       show us.length - (i + 1) < us.length - i
       omega
      ·
       show (i + 1) ≤ us.length ∧ sameTs (us.drop (i + 1)) (vs.drop (i + 1)) = sameTs us vs
       exact ⟨hlt, by rw [← hp, g2, Bool.true_and]⟩
      · exact Leads.rows 2 ⟨rfl, rfl, rfl, rfl, rfl, trivial⟩
    ·
     replace g := of_decide_eq_false g
     rw [List.drop_eq_nil_of_le (by omega), List.drop_eq_nil_of_le (by omega), sameTs] at hp
     refine AWP.exit ?_
     refine AWP.seq ?_
     refine AWP.region ?_
     refine Y (ass rfl) rfl ?_
     refine AOps.nil ?_
     refine AWP.ret ⟨.inl rfl, ?_⟩
     exact RetIs.oneV rfl rfl (by (rw [← hp]) <;> rfl)
theorem isame_AFExpr (k : Tr) : ∀ k' : Tr, k.bnd 1000000 → Fn 44 [k.av, k'.av] (bool (sameT k k')) := by
  induction k using Tr.ind
  rename_i kd nm t ks ih
  intro k' hk
  obtain ⟨kd', nm', t', ks'⟩ := k'
  simp only [Tr.bnd] at hk
  obtain ⟨hk1, hk2, hk3⟩ := hk
  have hS := equalFunc_ofExpr ks ks' (fun k hk k' => ih k hk k' (Tr.bnds_mem hk3 k hk)) (by omega)
  refine AF.intro Tryz.func44 nm44 rfl rfl rfl rfl fun w0 ok0 => ?_
  refine AWP.seq ?_
  refine AWP.region ?_
  refine AOps.box rfl rfl rfl rfl fun b1 => ?_
  refine AOps.box rfl rfl rfl rfl fun b2 => ?_
  refine Y (ass rfl) rfl ?_
  refine AOps.nil ?_
  refine AWP.seq ?_
  refine AWP.region ?_
  refine Y (Yields.fieldAddr_ptr fo28_0 rfl) rfl ?_
  refine Y (Yields.load_ptr_field (j := 1) kd3 rfl rfl rfl rfl rfl rfl rfl) rfl ?_
  refine Y (Yields.fieldAddr_ptr fo28_0 rfl) rfl ?_
  refine Y (Yields.load_ptr_field (j := 0) kd3 rfl rfl rfl rfl rfl rfl rfl) rfl ?_
  refine Y (bn rfl rfl BinR.eql rfl) rfl ?_
  refine Y (mv rfl) rfl ?_
  refine AOps.split 10 rfl (fun h1 => ?_) (fun h1 => ?_)
  ·
   replace h1 := eq_of_beq h1
   refine AOps.on rfl rfl ?_
   refine Y (Yields.fieldAddr_ptr fo28_1 rfl) rfl ?_
   refine AOps.on rfl rfl ?_
   refine Y (Yields.load_ptr_field (j := 1) kd3 rfl rfl rfl rfl rfl rfl rfl) rfl ?_
   refine AOps.on rfl rfl ?_
   refine Y (Yields.fieldAddr_ptr fo28_1 rfl) rfl ?_
   refine AOps.on rfl rfl ?_
   refine Y (Yields.load_ptr_field (j := 0) kd3 rfl rfl rfl rfl rfl rfl rfl) rfl ?_
   refine AOps.on rfl rfl ?_
   refine Y (bn rfl rfl BinR.eql rfl) rfl ?_
   refine Y (Yields.pick_true rfl rfl) rfl ?_
   refine Y (mv rfl) rfl ?_
   refine AOps.split 17 rfl (fun h2 => ?_) (fun h2 => ?_)
   ·
    replace h2 := eq_of_beq h2
    refine AOps.on rfl rfl ?_
    refine Y (Yields.fieldAddr_ptr fo28_2 rfl) rfl ?_
    refine AOps.on rfl rfl ?_
    refine Y (Yields.load_ptr_field (j := 1) kd9 rfl rfl rfl rfl rfl rfl rfl) rfl ?_
    refine AOps.on rfl rfl ?_
    refine Y (Yields.fieldAddr_ptr fo28_2 rfl) rfl ?_
    refine AOps.on rfl rfl ?_
    refine Y (Yields.load_ptr_field (j := 0) kd9 rfl rfl rfl rfl rfl rfl rfl) rfl ?_
    refine AOps.on rfl rfl ?_
    refine Y (bn rfl rfl BinR.seql rfl) rfl ?_
    refine Y (Yields.pick_true rfl rfl) rfl ?_
    refine Y (mv rfl) rfl ?_
    refine AOps.split 24 rfl (fun h3 => ?_) (fun h3 => ?_)
    ·
     replace h3 := of_decide_eq_true h3
     refine AOps.on rfl rfl ?_
     refine Y (Yields.fieldAddr_ptr fo28_3 rfl) rfl ?_
     refine AOps.on rfl rfl ?_
     refine Y (Yields.load_ptr_field (j := 1) kd26 rfl rfl rfl rfl rfl rfl rfl) rfl ?_
     refine AOps.on rfl rfl ?_
     refine Y (Yields.fieldAddr_ptr fo28_3 rfl) rfl ?_
     refine AOps.on rfl rfl ?_
     refine Y (Yields.load_ptr_field (j := 0) kd26 rfl rfl rfl rfl rfl rfl rfl) rfl ?_
     refine AOps.on rfl rfl ?_
     refine AOps.callro (hS) rfl rfl rfl ?_
     refine Y (Yields.pick_true rfl rfl) rfl ?_
     refine Y (ass rfl) rfl ?_
     refine AOps.nil ?_
     refine AWP.ret ⟨.inl rfl, ?_⟩
     exact RetIs.oneV rfl rfl (congrArg (fun b => AV.val (Value.bool b)) (by rw [Bool.eq_iff_iff]; first | (simp [sameT, h1, h2, h3]; done) | (simp [sameT, h1, h2, h3]; omega) | (simp_all [sameT, h1, h2, h3]; done) | (simp_all [sameT, h1, h2, h3]; omega) | (simp_all [sameT, h1, h2, h3]; intros; omega)))
    ·
     replace h3 := of_decide_eq_false h3
     refine AOps.off' rfl rfl rfl rfl ?_
     refine AOps.off' rfl rfl rfl rfl ?_
     refine AOps.off' rfl rfl rfl rfl ?_
     refine AOps.off' rfl rfl rfl rfl ?_
     refine AOps.off' rfl rfl rfl rfl ?_
     refine Y (Yields.pick_false rfl rfl) rfl ?_
     refine Y (ass rfl) rfl ?_
     refine AOps.nil ?_
     refine AWP.ret ⟨.inl rfl, ?_⟩
     exact RetIs.oneV rfl rfl (congrArg (fun b => AV.val (Value.bool b)) (by rw [Bool.eq_iff_iff]; first | (simp [sameT, h3]; done) | (simp [sameT, h3]; omega) | (simp_all [sameT, h3]; done) | (simp_all [sameT, h3]; omega) | (simp_all [sameT, h3]; intros; omega)))
   ·
    replace h2 := ne_of_beq_false h2
    refine AOps.off' rfl rfl rfl rfl ?_
    refine AOps.off' rfl rfl rfl rfl ?_
    refine AOps.off' rfl rfl rfl rfl ?_
    refine AOps.off' rfl rfl rfl rfl ?_
    refine AOps.off' rfl rfl rfl rfl ?_
    refine Y (Yields.pick_false rfl rfl) rfl ?_
    refine Y (mv rfl) rfl ?_
    refine AOps.off' rfl rfl rfl rfl ?_
    refine AOps.off' rfl rfl rfl rfl ?_
    refine AOps.off' rfl rfl rfl rfl ?_
    refine AOps.off' rfl rfl rfl rfl ?_
    refine AOps.off' rfl rfl rfl rfl ?_
    refine Y (Yields.pick_false rfl rfl) rfl ?_
    refine Y (ass rfl) rfl ?_
    refine AOps.nil ?_
    refine AWP.ret ⟨.inl rfl, ?_⟩
    exact RetIs.oneV rfl rfl (congrArg (fun b => AV.val (Value.bool b)) (by rw [Bool.eq_iff_iff]; first | (simp [sameT, h2]; done) | (simp [sameT, h2]; omega) | (simp_all [sameT, h2]; done) | (simp_all [sameT, h2]; omega) | (simp_all [sameT, h2]; intros; omega)))
  ·
   replace h1 := ne_of_beq_false h1
   refine AOps.off' rfl rfl rfl rfl ?_
   refine AOps.off' rfl rfl rfl rfl ?_
   refine AOps.off' rfl rfl rfl rfl ?_
   refine AOps.off' rfl rfl rfl rfl ?_
   refine AOps.off' rfl rfl rfl rfl ?_
   refine Y (Yields.pick_false rfl rfl) rfl ?_
   refine Y (mv rfl) rfl ?_
   refine AOps.off' rfl rfl rfl rfl ?_
   refine AOps.off' rfl rfl rfl rfl ?_
   refine AOps.off' rfl rfl rfl rfl ?_
   refine AOps.off' rfl rfl rfl rfl ?_
   refine AOps.off' rfl rfl rfl rfl ?_
   refine Y (Yields.pick_false rfl rfl) rfl ?_
   refine Y (mv rfl) rfl ?_
   refine AOps.off' rfl rfl rfl rfl ?_
   refine AOps.off' rfl rfl rfl rfl ?_
   refine AOps.off' rfl rfl rfl rfl ?_
   refine AOps.off' rfl rfl rfl rfl ?_
   refine AOps.off' rfl rfl rfl rfl ?_
   refine Y (Yields.pick_false rfl rfl) rfl ?_
   refine Y (ass rfl) rfl ?_
   refine AOps.nil ?_
   refine AWP.ret ⟨.inl rfl, ?_⟩
   exact RetIs.oneV rfl rfl (congrArg (fun b => AV.val (Value.bool b)) (by rw [Bool.eq_iff_iff]; first | (simp [sameT, h1]; done) | (simp [sameT, h1]; omega) | (simp_all [sameT, h1]; done) | (simp_all [sameT, h1]; omega) | (simp_all [sameT, h1]; intros; omega)))
theorem ssameS_of (us vs : List Tr) (hv : ∀ k ∈ us, ∀ k' : Tr, Fn 79 [k.av, k'.av] (bool (sameT k k'))) (hl : us.length ≤ 3000000) :
    Fn 89 [.ro 4 (Tr.avs us) [] false, .ro 4 (Tr.avs vs) [] false] (bool (sameTs us vs)) := by
  have hla := Tr.avs_length us
  have hlb := Tr.avs_length vs
  refine AF.intro Tryz.func89 nm89 rfl rfl rfl rfl fun w0 ok0 => ?_
  refine AWP.seq ?_
  refine AWP.region ?_
  refine Y (ass rfl) rfl ?_
  refine AOps.nil ?_
  refine AWP.seq ?_
  refine AWP.seq ?_
  refine AWP.region ?_
  refine Y (mv rfl) rfl ?_
  refine Y (Yields.len_ro sl63 rfl) rfl ?_
  refine Y (mv rfl) rfl ?_
  refine Y (Yields.len_ro sl63 rfl) rfl ?_
  refine Y (bn rfl rfl BinR.neq rfl) rfl ?_
  refine AOps.nil ?_
  refine AWP.condT rfl (fun h => ?_) (fun h => ?_)
  ·
   replace h := bne_iff_ne.1 h
   refine AWP.seq ?_
   refine AWP.region ?_
   refine Y (ass rfl) rfl ?_
   refine AOps.nil ?_
   refine AWP.ret ⟨.inl rfl, ?_⟩
   exact RetIs.oneV rfl rfl (by (rw [sameTs_len (by omega)]) <;> rfl)
  ·
   replace h := bne_eq_false_iff_eq.1 h
   refine AWP.skip ?_
   refine AWP.seq ?_
   refine AWP.seq ?_
   refine AWP.region ?_
   refine Y (ass rfl) rfl ?_
   refine AOps.nil ?_
   refine AWP.block ?_
   refine AWP.loopV (α := Nat) (fun i : Nat => ⟨[(0, .ro 4 (Tr.avs us) [] false), (1, .ro 4 (Tr.avs vs) [] false), (5, int i)], []⟩) (fun i : Nat => i ≤ us.length ∧ sameTs (us.drop i) (vs.drop i) = sameTs us vs) (fun i : Nat => us.length - i) (0) ?_ ?_ ?_
   · exact Leads.rows 0 ⟨rfl, rfl, rfl, trivial⟩
   ·
    show 0 ≤ us.length ∧ sameTs (us.drop 0) (vs.drop 0) = sameTs us vs
    exact ⟨Nat.zero_le _, rfl⟩
   ·
    rintro i hinv
    refine AWP.seq ?_
    refine AWP.seq ?_
    refine AWP.region ?_
    obtain ⟨hi, hp⟩ := hinv
    refine Y (mv rfl) rfl ?_
    refine Y (mv rfl) rfl ?_
    refine Y (Yields.len_ro sl63 rfl) rfl ?_
    refine Y (bn rfl rfl BinR.lss rfl) rfl ?_
    refine AOps.nil ?_
    refine AWP.condT rfl (fun g => ?_) (fun g => ?_)
    ·
     replace g := of_decide_eq_true g
     have hlt : i < us.length := by omega
     obtain ⟨k, hk, hd⟩ := drop_at hlt
     obtain ⟨k', hk', hd'⟩ := drop_at (l := vs) (i := i) (by omega)
     rw [hd, hd', sameTs] at hp
     refine AWP.skip ?_
     refine AWP.seq ?_
     refine AWP.block ?_
     refine AWP.seq ?_
     refine AWP.prune (tm' := [(0, _), (1, _), (5, _), (14, _)]) ⟨rfl, rfl, rfl, rfl, trivial⟩ ?_
     refine AWP.drawn mixed rfl rfl ?_
     refine D (tm' := [(0, _)]) ⟨rfl, trivial⟩ (DStep.yields (mv rfl)) rfl ?_
     refine D (tm' := [(5, _)]) ⟨rfl, trivial⟩ (DStep.yields (mv rfl)) rfl ?_
     refine D (tm' := [(17, _), (18, _)]) ⟨rfl, rfl, trivial⟩ (DStep.yields (Yields.idx_roN sl63 rfl rfl rfl rfl (by omega))) rfl ?_
     refine D (tm' := [(19, _)]) ⟨rfl, trivial⟩ (DStep.yields (Yields.load_rop_aggV kd65 rfl (Tr.avs_at hk) (Tr.av_agg k))) rfl ?_
     refine D (tm' := [(1, _)]) ⟨rfl, trivial⟩ (DStep.yields (mv rfl)) rfl ?_
     refine D (tm' := [(5, _)]) ⟨rfl, trivial⟩ (DStep.yields (mv rfl)) rfl ?_
     refine D (tm' := [(21, _), (22, _)]) ⟨rfl, rfl, trivial⟩ (DStep.yields (Yields.idx_roN sl63 rfl rfl rfl rfl (by omega))) rfl ?_
     refine D (tm' := [(23, _)]) ⟨rfl, trivial⟩ (DStep.yields (Yields.load_rop_aggV kd65 rfl (Tr.avs_at hk') (Tr.av_agg k'))) rfl ?_
     refine D (tm' := [(20, _), (24, _)]) ⟨rfl, rfl, trivial⟩ (DStep.callro (hv k (List.mem_of_getElem? hk) k') rfl rfl) rfl ?_
     refine D (tm' := [(25, _)]) ⟨rfl, trivial⟩ (DStep.yields (Yields.not rfl)) rfl ?_
     refine DOps.nil ?_
     refine AWP.condT rfl (fun g2 => ?_) (fun g2 => ?_)
     ·
      skip
      refine AWP.seq ?_
      refine AWP.region ?_
      have g2 : sameT k k' = false := by simpa using g2
      refine Y (ass rfl) rfl ?_
      refine AOps.nil ?_
      refine AWP.ret ⟨.inl rfl, ?_⟩
      exact RetIs.oneV rfl rfl (by (rw [← hp, g2]) <;> rfl)
     ·
      skip
      have g2 : sameT k k' = true := by simpa using g2
      refine AWP.skip ?_
      refine AWP.region ?_
      refine Y (mv rfl) rfl ?_
      refine Y (bn rfl rfl (BinR.addI (by omega) (by omega)) rfl) rfl ?_
      refine Y (ass rfl) rfl ?_
      refine AOps.nil ?_
      refine ⟨i + 1, ?_, ?_, ?_⟩
      ·
       show us.length - (i + 1) < us.length - i
       omega
      ·
       show (i + 1) ≤ us.length ∧ sameTs (us.drop (i + 1)) (vs.drop (i + 1)) = sameTs us vs
       exact ⟨hlt, by rw [← hp, g2, Bool.true_and]⟩
      · exact Leads.rows 0 ⟨rfl, rfl, rfl, trivial⟩
    ·
     replace g := of_decide_eq_false g
     rw [List.drop_eq_nil_of_le (by omega), List.drop_eq_nil_of_le (by omega), sameTs] at hp
     refine AWP.exit ?_
     refine AWP.seq ?_
     refine AWP.region ?_
     refine Y (ass rfl) rfl ?_
     refine AOps.nil ?_
     refine AWP.ret ⟨.inl rfl, ?_⟩
     exact RetIs.oneV rfl rfl (by (rw [← hp]) <;> rfl)
theorem ssame_AFValue (k : Tr) : ∀ k' : Tr, k.bnd 1000000 → Fn 79 [k.av, k'.av] (bool (sameT k k')) := by
  induction k using Tr.ind
  rename_i kd nm t ks ih
  intro k' hk
  obtain ⟨kd', nm', t', ks'⟩ := k'
  simp only [Tr.bnd] at hk
  obtain ⟨hk1, hk2, hk3⟩ := hk
  have hS := ssameS_of ks ks' (fun k hk k' => ih k hk k' (Tr.bnds_mem hk3 k hk)) (by omega)
  refine AF.intro Tryz.func79 nm79 rfl rfl rfl rfl fun w0 ok0 => ?_
  refine AWP.seq ?_
  refine AWP.region ?_
  refine AOps.box rfl rfl rfl rfl fun b1 => ?_
  refine AOps.box rfl rfl rfl rfl fun b2 => ?_
  refine Y (ass rfl) rfl ?_
  refine AOps.nil ?_
  refine AWP.seq ?_
  refine AWP.region ?_
  refine Y (Yields.fieldAddr_ptr fo65_0 rfl) rfl ?_
  refine Y (Yields.load_ptr_field (j := 1) kd3 rfl rfl rfl rfl rfl rfl rfl) rfl ?_
  refine Y (Yields.fieldAddr_ptr fo65_0 rfl) rfl ?_
  refine Y (Yields.load_ptr_field (j := 0) kd3 rfl rfl rfl rfl rfl rfl rfl) rfl ?_
  refine Y (bn rfl rfl BinR.eql rfl) rfl ?_
  refine Y (mv rfl) rfl ?_
  refine AOps.split 10 rfl (fun h1 => ?_) (fun h1 => ?_)
  ·
   replace h1 := eq_of_beq h1
   refine AOps.on rfl rfl ?_
   refine Y (Yields.fieldAddr_ptr fo65_1 rfl) rfl ?_
   refine AOps.on rfl rfl ?_
   refine Y (Yields.load_ptr_field (j := 1) kd3 rfl rfl rfl rfl rfl rfl rfl) rfl ?_
   refine AOps.on rfl rfl ?_
   refine Y (Yields.fieldAddr_ptr fo65_1 rfl) rfl ?_
   refine AOps.on rfl rfl ?_
   refine Y (Yields.load_ptr_field (j := 0) kd3 rfl rfl rfl rfl rfl rfl rfl) rfl ?_
   refine AOps.on rfl rfl ?_
   refine Y (bn rfl rfl BinR.eql rfl) rfl ?_
   refine Y (Yields.pick_true rfl rfl) rfl ?_
   refine Y (mv rfl) rfl ?_
   refine AOps.split 17 rfl (fun h2 => ?_) (fun h2 => ?_)
   ·
    replace h2 := eq_of_beq h2
    refine AOps.on rfl rfl ?_
    refine Y (Yields.fieldAddr_ptr fo65_2 rfl) rfl ?_
    refine AOps.on rfl rfl ?_
    refine Y (Yields.load_ptr_field (j := 1) kd9 rfl rfl rfl rfl rfl rfl rfl) rfl ?_
    refine AOps.on rfl rfl ?_
    refine Y (Yields.fieldAddr_ptr fo65_2 rfl) rfl ?_
    refine AOps.on rfl rfl ?_
    refine Y (Yields.load_ptr_field (j := 0) kd9 rfl rfl rfl rfl rfl rfl rfl) rfl ?_
    refine AOps.on rfl rfl ?_
    refine Y (bn rfl rfl BinR.seql rfl) rfl ?_
    refine Y (Yields.pick_true rfl rfl) rfl ?_
    refine Y (mv rfl) rfl ?_
    refine AOps.split 24 rfl (fun h3 => ?_) (fun h3 => ?_)
    ·
     replace h3 := of_decide_eq_true h3
     refine AOps.on rfl rfl ?_
     refine Y (Yields.fieldAddr_ptr fo65_3 rfl) rfl ?_
     refine AOps.on rfl rfl ?_
     refine Y (Yields.load_ptr_field (j := 1) kd63 rfl rfl rfl rfl rfl rfl rfl) rfl ?_
     refine AOps.on rfl rfl ?_
     refine Y (Yields.fieldAddr_ptr fo65_3 rfl) rfl ?_
     refine AOps.on rfl rfl ?_
     refine Y (Yields.load_ptr_field (j := 0) kd63 rfl rfl rfl rfl rfl rfl rfl) rfl ?_
     refine AOps.on rfl rfl ?_
     refine AOps.callro (hS) rfl rfl rfl ?_
     refine Y (Yields.pick_true rfl rfl) rfl ?_
     refine Y (ass rfl) rfl ?_
     refine AOps.nil ?_
     refine AWP.ret ⟨.inl rfl, ?_⟩
     exact RetIs.oneV rfl rfl (congrArg (fun b => AV.val (Value.bool b)) (by rw [Bool.eq_iff_iff]; first | (simp [sameT, h1, h2, h3]; done) | (simp [sameT, h1, h2, h3]; omega) | (simp_all [sameT, h1, h2, h3]; done) | (simp_all [sameT, h1, h2, h3]; omega) | (simp_all [sameT, h1, h2, h3]; intros; omega)))
    ·
     replace h3 := of_decide_eq_false h3
     refine AOps.off' rfl rfl rfl rfl ?_
     refine AOps.off' rfl rfl rfl rfl ?_
     refine AOps.off' rfl rfl rfl rfl ?_
     refine AOps.off' rfl rfl rfl rfl ?_
     refine AOps.off' rfl rfl rfl rfl ?_
     refine Y (Yields.pick_false rfl rfl) rfl ?_
     refine Y (ass rfl) rfl ?_
     refine AOps.nil ?_
     refine AWP.ret ⟨.inl rfl, ?_⟩
     exact RetIs.oneV rfl rfl (congrArg (fun b => AV.val (Value.bool b)) (by rw [Bool.eq_iff_iff]; first | (simp [sameT, h3]; done) | (simp [sameT, h3]; omega) | (simp_all [sameT, h3]; done) | (simp_all [sameT, h3]; omega) | (simp_all [sameT, h3]; intros; omega)))
   ·
    replace h2 := ne_of_beq_false h2
    refine AOps.off' rfl rfl rfl rfl ?_
    refine AOps.off' rfl rfl rfl rfl ?_
    refine AOps.off' rfl rfl rfl rfl ?_
    refine AOps.off' rfl rfl rfl rfl ?_
    refine AOps.off' rfl rfl rfl rfl ?_
    refine Y (Yields.pick_false rfl rfl) rfl ?_
    refine Y (mv rfl) rfl ?_
    refine AOps.off' rfl rfl rfl rfl ?_
    refine AOps.off' rfl rfl rfl rfl ?_
    refine AOps.off' rfl rfl rfl rfl ?_
    refine AOps.off' rfl rfl rfl rfl ?_
    refine AOps.off' rfl rfl rfl rfl ?_
    refine Y (Yields.pick_false rfl rfl) rfl ?_
    refine Y (ass rfl) rfl ?_
    refine AOps.nil ?_
    refine AWP.ret ⟨.inl rfl, ?_⟩
    exact RetIs.oneV rfl rfl (congrArg (fun b => AV.val (Value.bool b)) (by rw [Bool.eq_iff_iff]; first | (simp [sameT, h2]; done) | (simp [sameT, h2]; omega) | (simp_all [sameT, h2]; done) | (simp_all [sameT, h2]; omega) | (simp_all [sameT, h2]; intros; omega)))
  ·
   replace h1 := ne_of_beq_false h1
   refine AOps.off' rfl rfl rfl rfl ?_
   refine AOps.off' rfl rfl rfl rfl ?_
   refine AOps.off' rfl rfl rfl rfl ?_
   refine AOps.off' rfl rfl rfl rfl ?_
   refine AOps.off' rfl rfl rfl rfl ?_
   refine Y (Yields.pick_false rfl rfl) rfl ?_
   refine Y (mv rfl) rfl ?_
   refine AOps.off' rfl rfl rfl rfl ?_
   refine AOps.off' rfl rfl rfl rfl ?_
   refine AOps.off' rfl rfl rfl rfl ?_
   refine AOps.off' rfl rfl rfl rfl ?_
   refine AOps.off' rfl rfl rfl rfl ?_
   refine Y (Yields.pick_false rfl rfl) rfl ?_
   refine Y (mv rfl) rfl ?_
   refine AOps.off' rfl rfl rfl rfl ?_
   refine AOps.off' rfl rfl rfl rfl ?_
   refine AOps.off' rfl rfl rfl rfl ?_
   refine AOps.off' rfl rfl rfl rfl ?_
   refine AOps.off' rfl rfl rfl rfl ?_
   refine Y (Yields.pick_false rfl rfl) rfl ?_
   refine Y (ass rfl) rfl ?_
   refine AOps.nil ?_
   refine AWP.ret ⟨.inl rfl, ?_⟩
   exact RetIs.oneV rfl rfl (congrArg (fun b => AV.val (Value.bool b)) (by rw [Bool.eq_iff_iff]; first | (simp [sameT, h1]; done) | (simp [sameT, h1]; omega) | (simp_all [sameT, h1]; done) | (simp_all [sameT, h1]; omega) | (simp_all [sameT, h1]; intros; omega)))
theorem ssame_AFExpr (k : Tr) : ∀ k' : Tr, k.bnd 1000000 → Fn 52 [k.av, k'.av] (bool (sameT k k')) := by
  induction k using Tr.ind
  rename_i kd nm t ks ih
  intro k' hk
  obtain ⟨kd', nm', t', ks'⟩ := k'
  simp only [Tr.bnd] at hk
  obtain ⟨hk1, hk2, hk3⟩ := hk
  have hla := Tr.avs_length ks
  have hlb := Tr.avs_length ks'
  refine AF.intro Tryz.func52 nm52 rfl rfl rfl rfl fun w0 ok0 => ?_
  refine AWP.seq ?_
  refine AWP.region ?_
  refine AOps.box rfl rfl rfl rfl fun b1 => ?_
  refine AOps.box rfl rfl rfl rfl fun b2 => ?_
  refine Y (ass rfl) rfl ?_
  refine AOps.nil ?_
  refine AWP.seq ?_
  refine AWP.seq ?_
  refine AWP.region ?_
  refine Y (Yields.fieldAddr_ptr fo28_0 rfl) rfl ?_
  refine Y (Yields.load_ptr_field (j := 1) kd3 rfl rfl rfl rfl rfl rfl rfl) rfl ?_
  refine Y (Yields.fieldAddr_ptr fo28_0 rfl) rfl ?_
  refine Y (Yields.load_ptr_field (j := 0) kd3 rfl rfl rfl rfl rfl rfl rfl) rfl ?_
  refine Y (bn rfl rfl BinR.neq rfl) rfl ?_
  refine Y (mv rfl) rfl ?_
  refine AOps.split 11 rfl (fun h1 => ?_) (fun h1 => ?_)
  ·
   replace h1 := bne_iff_ne.1 h1
   refine AOps.off' rfl rfl rfl rfl ?_
   refine AOps.off' rfl rfl rfl rfl ?_
   refine AOps.off' rfl rfl rfl rfl ?_
   refine AOps.off' rfl rfl rfl rfl ?_
   refine AOps.off' rfl rfl rfl rfl ?_
   refine Y (Yields.pick_true rfl rfl) rfl ?_
   refine Y (mv rfl) rfl ?_
   refine AOps.off' rfl rfl rfl rfl ?_
   refine AOps.off' rfl rfl rfl rfl ?_
   refine AOps.off' rfl rfl rfl rfl ?_
   refine AOps.off' rfl rfl rfl rfl ?_
   refine AOps.off' rfl rfl rfl rfl ?_
   refine Y (Yields.pick_true rfl rfl) rfl ?_
   refine Y (mv rfl) rfl ?_
   refine AOps.off' rfl rfl rfl rfl ?_
   refine AOps.off' rfl rfl rfl rfl ?_
   refine AOps.off' rfl rfl rfl rfl ?_
   refine AOps.off' rfl rfl rfl rfl ?_
   refine AOps.off' rfl rfl rfl rfl ?_
   refine AOps.off' rfl rfl rfl rfl ?_
   refine AOps.off' rfl rfl rfl rfl ?_
   refine Y (Yields.pick_true rfl rfl) rfl ?_
   refine AOps.nil ?_
   refine AWP.cond rfl (fun _ => ?_) (fun h => absurd h (by decide))
   refine AWP.seq ?_
   refine AWP.region ?_
   refine Y (ass rfl) rfl ?_
   refine AOps.nil ?_
   refine AWP.ret ⟨.inl rfl, ?_⟩
   exact RetIs.oneV rfl rfl (congrArg (fun b => AV.val (Value.bool b)) (by rw [Bool.eq_iff_iff]; first | (simp [sameT, h1]; done) | (simp [sameT, h1]; omega) | (simp_all [sameT, h1]; done) | (simp_all [sameT, h1]; omega) | (simp_all [sameT, h1]; intros; omega)))
  ·
   replace h1 := bne_eq_false_iff_eq.1 h1
   refine AOps.on rfl rfl ?_
   refine Y (Yields.fieldAddr_ptr fo28_1 rfl) rfl ?_
   refine AOps.on rfl rfl ?_
   refine Y (Yields.load_ptr_field (j := 1) kd3 rfl rfl rfl rfl rfl rfl rfl) rfl ?_
   refine AOps.on rfl rfl ?_
   refine Y (Yields.fieldAddr_ptr fo28_1 rfl) rfl ?_
   refine AOps.on rfl rfl ?_
   refine Y (Yields.load_ptr_field (j := 0) kd3 rfl rfl rfl rfl rfl rfl rfl) rfl ?_
   refine AOps.on rfl rfl ?_
   refine Y (bn rfl rfl BinR.neq rfl) rfl ?_
   refine Y (Yields.pick_false rfl rfl) rfl ?_
   refine Y (mv rfl) rfl ?_
   refine AOps.split 18 rfl (fun h2 => ?_) (fun h2 => ?_)
   ·
    replace h2 := bne_iff_ne.1 h2
    refine AOps.off' rfl rfl rfl rfl ?_
    refine AOps.off' rfl rfl rfl rfl ?_
    refine AOps.off' rfl rfl rfl rfl ?_
    refine AOps.off' rfl rfl rfl rfl ?_
    refine AOps.off' rfl rfl rfl rfl ?_
    refine Y (Yields.pick_true rfl rfl) rfl ?_
    refine Y (mv rfl) rfl ?_
    refine AOps.off' rfl rfl rfl rfl ?_
    refine AOps.off' rfl rfl rfl rfl ?_
    refine AOps.off' rfl rfl rfl rfl ?_
    refine AOps.off' rfl rfl rfl rfl ?_
    refine AOps.off' rfl rfl rfl rfl ?_
    refine AOps.off' rfl rfl rfl rfl ?_
    refine AOps.off' rfl rfl rfl rfl ?_
    refine Y (Yields.pick_true rfl rfl) rfl ?_
    refine AOps.nil ?_
    refine AWP.cond rfl (fun _ => ?_) (fun h => absurd h (by decide))
    refine AWP.seq ?_
    refine AWP.region ?_
    refine Y (ass rfl) rfl ?_
    refine AOps.nil ?_
    refine AWP.ret ⟨.inl rfl, ?_⟩
    exact RetIs.oneV rfl rfl (congrArg (fun b => AV.val (Value.bool b)) (by rw [Bool.eq_iff_iff]; first | (simp [sameT, h2]; done) | (simp [sameT, h2]; omega) | (simp_all [sameT, h2]; done) | (simp_all [sameT, h2]; omega) | (simp_all [sameT, h2]; intros; omega)))
   ·
    replace h2 := bne_eq_false_iff_eq.1 h2
    refine AOps.on rfl rfl ?_
    refine Y (Yields.fieldAddr_ptr fo28_2 rfl) rfl ?_
    refine AOps.on rfl rfl ?_
    refine Y (Yields.load_ptr_field (j := 1) kd9 rfl rfl rfl rfl rfl rfl rfl) rfl ?_
    refine AOps.on rfl rfl ?_
    refine Y (Yields.fieldAddr_ptr fo28_2 rfl) rfl ?_
    refine AOps.on rfl rfl ?_
    refine Y (Yields.load_ptr_field (j := 0) kd9 rfl rfl rfl rfl rfl rfl rfl) rfl ?_
    refine AOps.on rfl rfl ?_
    refine Y (bn rfl rfl BinR.sneq rfl) rfl ?_
    refine Y (Yields.pick_false rfl rfl) rfl ?_
    refine Y (mv rfl) rfl ?_
    refine AOps.split 25 rfl (fun h3 => ?_) (fun h3 => ?_)
    ·
     replace h3 := of_decide_eq_true h3
     refine AOps.off' rfl rfl rfl rfl ?_
     refine AOps.off' rfl rfl rfl rfl ?_
     refine AOps.off' rfl rfl rfl rfl ?_
     refine AOps.off' rfl rfl rfl rfl ?_
     refine AOps.off' rfl rfl rfl rfl ?_
     refine AOps.off' rfl rfl rfl rfl ?_
     refine AOps.off' rfl rfl rfl rfl ?_
     refine Y (Yields.pick_true rfl rfl) rfl ?_
     refine AOps.nil ?_
     refine AWP.cond rfl (fun _ => ?_) (fun h => absurd h (by decide))
     refine AWP.seq ?_
     refine AWP.region ?_
     refine Y (ass rfl) rfl ?_
     refine AOps.nil ?_
     refine AWP.ret ⟨.inl rfl, ?_⟩
     exact RetIs.oneV rfl rfl (congrArg (fun b => AV.val (Value.bool b)) (by rw [Bool.eq_iff_iff]; first | (simp [sameT, h3]; done) | (simp [sameT, h3]; omega) | (simp_all [sameT, h3]; done) | (simp_all [sameT, h3]; omega) | (simp_all [sameT, h3]; intros; omega)))
    ·
     replace h3 := Decidable.of_not_not (of_decide_eq_false h3)
     refine AOps.on rfl rfl ?_
     refine Y (Yields.fieldAddr_ptr fo28_3 rfl) rfl ?_
     refine AOps.on rfl rfl ?_
     refine Y (Yields.load_ptr_field (j := 1) kd26 rfl rfl rfl rfl rfl rfl rfl) rfl ?_
     refine AOps.on rfl rfl ?_
     refine Y (Yields.len_ro sl26 rfl) rfl ?_
     refine AOps.on rfl rfl ?_
     refine Y (Yields.fieldAddr_ptr fo28_3 rfl) rfl ?_
     refine AOps.on rfl rfl ?_
     refine Y (Yields.load_ptr_field (j := 0) kd26 rfl rfl rfl rfl rfl rfl rfl) rfl ?_
     refine AOps.on rfl rfl ?_
     refine Y (Yields.len_ro sl26 rfl) rfl ?_
     refine AOps.on rfl rfl ?_
     refine Y (bn rfl rfl BinR.neq rfl) rfl ?_
     refine Y (Yields.pick_false rfl rfl) rfl ?_
     refine AOps.nil ?_
     refine AWP.condT rfl (fun h4 => ?_) (fun h4 => ?_)
     ·
      replace h4 := bne_iff_ne.1 h4
      refine AWP.seq ?_
      refine AWP.region ?_
      refine Y (ass rfl) rfl ?_
      refine AOps.nil ?_
      refine AWP.ret ⟨.inl rfl, ?_⟩
      exact RetIs.oneV rfl rfl (by (rw [sameT, sameTs_len (by omega)]; simp) <;> rfl)
     ·
      replace h4 := bne_eq_false_iff_eq.1 h4
      refine AWP.skip ?_
      refine AWP.seq ?_
      refine AWP.seq ?_
      refine AWP.region ?_
      refine Y (ass rfl) rfl ?_
      refine AOps.nil ?_
      refine AWP.block ?_
      refine AWP.loopV (α := Nat) (fun i : Nat => ⟨[(2, .ptr (some b1) 0 0 4), (3, .ptr (some b2) 0 0 4), (5, int i)], [(some b2, ⟨4, [Tr.av (.mk kd' nm' t' ks')]⟩), (some b1, ⟨4, [Tr.av (.mk kd nm t ks)]⟩)]⟩) (fun i : Nat => i ≤ ks.length ∧ sameTs (ks.drop i) (ks'.drop i) = sameTs ks ks') (fun i : Nat => ks.length - i) (0) ?_ ?_ ?_
      · exact Leads.rows 0 ⟨rfl, rfl, rfl, trivial⟩
      ·
       show 0 ≤ ks.length ∧ sameTs (ks.drop 0) (ks'.drop 0) = sameTs ks ks'
       exact ⟨Nat.zero_le _, rfl⟩
      ·
       rintro i hinv
       refine AWP.seq ?_
       refine AWP.seq ?_
       refine AWP.region ?_
       obtain ⟨hi, hp⟩ := hinv
       refine Y (mv rfl) rfl ?_
       refine Y (Yields.fieldAddr_ptr fo28_3 rfl) rfl ?_
       refine Y (Yields.load_ptr_field (j := 1) kd26 rfl rfl rfl rfl rfl rfl rfl) rfl ?_
       refine Y (Yields.len_ro sl26 rfl) rfl ?_
       refine Y (bn rfl rfl BinR.lss rfl) rfl ?_
       refine AOps.nil ?_
       refine AWP.condT rfl (fun g => ?_) (fun g => ?_)
       ·
        replace g := of_decide_eq_true g
        have hlt : i < ks.length := by omega
        obtain ⟨k, hk, hd⟩ := drop_at hlt
        obtain ⟨k', hk', hd'⟩ := drop_at (l := ks') (i := i) (by omega)
        rw [hd, hd', sameTs] at hp
        refine AWP.skip ?_
        refine AWP.seq ?_
        refine AWP.block ?_
        refine AWP.seq ?_
        refine AWP.prune (tm' := [(2, _), (3, _), (5, _), (38, _)]) ⟨rfl, rfl, rfl, rfl, trivial⟩ ?_
        refine AWP.drawn mixed rfl rfl ?_
        refine D (tm' := [(2, _)]) ⟨rfl, trivial⟩ (DStep.yields (Yields.fieldAddr_ptr fo28_3 rfl)) rfl ?_
        refine D (tm' := [(41, _)]) ⟨rfl, trivial⟩ (DStep.yields (Yields.load_ptr_field (j := 1) kd26 rfl rfl rfl rfl rfl rfl rfl)) rfl ?_
        refine D (tm' := [(5, _)]) ⟨rfl, trivial⟩ (DStep.yields (mv rfl)) rfl ?_
        refine D (tm' := [(42, _), (43, _)]) ⟨rfl, rfl, trivial⟩ (DStep.yields (Yields.idx_roN sl26 rfl rfl rfl rfl (by omega))) rfl ?_
        refine D (tm' := [(44, _)]) ⟨rfl, trivial⟩ (DStep.yields (Yields.load_rop_aggV kd28 rfl (Tr.avs_at hk) (Tr.av_agg k))) rfl ?_
        refine D (tm' := [(3, _)]) ⟨rfl, trivial⟩ (DStep.yields (Yields.fieldAddr_ptr fo28_3 rfl)) rfl ?_
        refine D (tm' := [(46, _)]) ⟨rfl, trivial⟩ (DStep.yields (Yields.load_ptr_field (j := 0) kd26 rfl rfl rfl rfl rfl rfl rfl)) rfl ?_
        refine D (tm' := [(5, _)]) ⟨rfl, trivial⟩ (DStep.yields (mv rfl)) rfl ?_
        refine D (tm' := [(47, _), (48, _)]) ⟨rfl, rfl, trivial⟩ (DStep.yields (Yields.idx_roN sl26 rfl rfl rfl rfl (by omega))) rfl ?_
        refine D (tm' := [(49, _)]) ⟨rfl, trivial⟩ (DStep.yields (Yields.load_rop_aggV kd28 rfl (Tr.avs_at hk') (Tr.av_agg k'))) rfl ?_
        refine D (tm' := [(45, _), (50, _)]) ⟨rfl, rfl, trivial⟩ (DStep.callro (ih k (List.mem_of_getElem? hk) k' (Tr.bnds_get hk3 hk)) rfl rfl) rfl ?_
        refine D (tm' := [(51, _)]) ⟨rfl, trivial⟩ (DStep.yields (Yields.not rfl)) rfl ?_
        refine DOps.nil ?_
        refine AWP.condT rfl (fun g2 => ?_) (fun g2 => ?_)
        ·
         skip
         refine AWP.seq ?_
         refine AWP.region ?_
         have g2 : sameT k k' = false := by simpa using g2
         refine Y (ass rfl) rfl ?_
         refine AOps.nil ?_
         refine AWP.ret ⟨.inl rfl, ?_⟩
         exact RetIs.oneV rfl rfl (by (rw [sameT, ← hp, g2]; simp) <;> rfl)
        ·
         skip
         have g2 : sameT k k' = true := by simpa using g2
         refine AWP.skip ?_
         refine AWP.region ?_
         refine Y (mv rfl) rfl ?_
         refine Y (bn rfl rfl (BinR.addI (by omega) (by omega)) rfl) rfl ?_
         refine Y (ass rfl) rfl ?_
         refine AOps.nil ?_
         refine ⟨i + 1, ?_, ?_, ?_⟩
         ·
          show ks.length - (i + 1) < ks.length - i
          omega
         ·
          show (i + 1) ≤ ks.length ∧ sameTs (ks.drop (i + 1)) (ks'.drop (i + 1)) = sameTs ks ks'
          exact ⟨hlt, by rw [← hp, g2, Bool.true_and]⟩
         · exact Leads.rows 0 ⟨rfl, rfl, rfl, trivial⟩
       ·
        replace g := of_decide_eq_false g
        rw [List.drop_eq_nil_of_le (by omega), List.drop_eq_nil_of_le (by omega), sameTs] at hp
        refine AWP.exit ?_
        refine AWP.seq ?_
        refine AWP.region ?_
        refine Y (ass rfl) rfl ?_
        refine AOps.nil ?_
        refine AWP.ret ⟨.inl rfl, ?_⟩
        exact RetIs.oneV rfl rfl (by (rw [sameT, ← hp]; simp_all) <;> rfl)
end Go.Proofs.YtccdgppplkfjfaaGreat
