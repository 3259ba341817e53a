/- Values with records renamed. -/
import Derived.Test.YtnmodhbchfkfbaaHeld
import Derived.Test.YtnmodhbchfkfbaaVok
namespace Go.Proofs.Ytnmodhbchfkfbaa
open Go Go.Ax Go.Proofs
set_option linter.unusedVariables false
set_option linter.unusedSimpArgs false
set_option maxRecDepth 20000
section
variable (old name : ByteArray)
mutual
def renT : Tr → Tr
  | .mk k n t ks => .mk k n (if k = 4 ∧ t = old then name else t) (renK ks)
def renK : List Tr → List Tr
  | [] => []
  | k :: ks => renT k :: renK ks
end
theorem renK_length : ∀ l, (renK old name l).length = l.length
  | [] => rfl
  | k :: l => by rw [renK]; simp [renK_length l]
theorem renK_append : ∀ l m, renK old name (l ++ m) = renK old name l ++ renK old name m
  | [], m => rfl
  | k :: l, m => by simp [renK, renK_append l m]
theorem renK_take {l : List Tr} {i : Nat} {k : Tr} (h : l[i]? = some k) : renK old name (l.take (i + 1)) = renK old name (l.take i) ++ [renT old name k] := by
  rw [List.take_add_one, h, renK_append]; rfl
end
theorem avXs_one (sp : Nat → List AV) (l : List Tr) (k : Tr) : Tr.avXs sp l ++ [k.avX sp] = Tr.avXs sp (l ++ [k]) := by rw [Tr.avXs_append]; rfl

theorem irenamed_AH (old name : ByteArray) (k : Tr) : k.bnd 1000000 → FnH 32 [] [k.av, str old, str name] (ownT (renT old name k)) := by
  induction k using Tr.ind
  rename_i kd nm t ks ih
  intro hk
  simp only [Tr.bnd] at hk
  obtain ⟨hk1, hk2, hk3⟩ := hk
  have hlen := Tr.avs_length ks
  refine AH.intro Try.func32 nm32 rfl rfl rfl fun w0 ok0 own0 => ?_
  refine AWP.seq ?_
  refine AWP.region ?_
  refine AOps.box rfl rfl rfl rfl fun b1 => ?_
  refine AOps.alloc rfl z30 rfl rfl fun b2 => ?_
  refine AOps.nil ?_
  refine AWP.seq ?_
  refine AWP.region ?_
  refine Y (Yields.load_ptr_agg (j := 1) kd30 rfl rfl rfl rfl) rfl ?_
  refine AOps.alloc rfl z30 rfl rfl fun b3 => ?_
  refine AOps.store (j := 0) kd30 rfl rfl rfl rfl rfl rfl ?_
  refine AOps.nil ?_
  refine AWP.seq ?_
  refine AWP.region ?_
  refine Y (Yields.fieldAddr_ptr fo30_3 rfl) rfl ?_
  refine AOps.storeField (j := 0) kd28 rfl rfl rfl rfl rfl rfl rfl ?_
  refine AOps.nil ?_
  refine AWP.midT [(1, str old), (2, str name), (3, .ptr (some b1) 0 0 4), (6, .ptr (some b2) 0 0 4), (7, .ptr (some b3) 0 0 4)] [(some b3, ⟨4, [.agg [int kd, int nm, str (if kd = 4 ∧ t = old then name else t), .val (.slice none 0 0)]]⟩), (some b2, ⟨4, [zero4]⟩), (some b1, ⟨4, [Tr.av (.mk kd nm t ks)]⟩)] ?_ ?_
  · skip
    refine AWP.seq ?_
    refine AWP.region ?_
    refine Y (Yields.fieldAddr_ptr fo30_0 rfl) rfl ?_
    refine Y (Yields.load_ptr_field (j := 2) kd3 rfl rfl rfl rfl rfl rfl rfl) rfl ?_
    refine Y (bn rfl rfl BinR.eql rfl) rfl ?_
    refine Y (mv rfl) rfl ?_
    refine AOps.split 15 rfl (fun c1 => ?_) (fun c1 => ?_)
    · replace c1 := eq_of_beq c1
      refine AOps.on rfl rfl ?_
      refine Y (Yields.fieldAddr_ptr fo30_2 rfl) rfl ?_
      refine AOps.on rfl rfl ?_
      refine Y (Yields.load_ptr_field (j := 2) kd9 rfl rfl rfl rfl rfl rfl rfl) rfl ?_
      refine AOps.on rfl rfl ?_
      refine Y (mv rfl) rfl ?_
      refine AOps.on rfl rfl ?_
      refine Y (bn rfl rfl BinR.seql rfl) rfl ?_
      refine Y (Yields.pick_true rfl rfl) rfl ?_
      refine AOps.nil ?_
      refine AWP.condT rfl (fun c2 => ?_) (fun c2 => ?_)
      · replace c2 := of_decide_eq_true c2
        refine AWP.region ?_
        refine Y (mv rfl) rfl ?_
        refine Y (Yields.fieldAddr_ptr fo30_2 rfl) rfl ?_
        refine AOps.storeField (j := 0) kd9 rfl rfl rfl rfl rfl rfl rfl ?_
        refine AOps.nil ?_
        refine Leads.trans (Leads.rowEq 0 rfl (congrArg (fun t => [AV.agg [int kd, int nm, str t, .val (.slice none 0 0)]]) (if_pos ⟨c1, c2⟩ : (if kd = 4 ∧ t = old then name else t) = name).symm)) ?_
        exact Leads.keepR (KeepR.cons 0 rfl (KeepR.cons 0 rfl (KeepR.cons 0 rfl KeepR.nil))) ⟨rfl, rfl, rfl, rfl, rfl, trivial⟩
      · replace c2 := of_decide_eq_false c2
        refine AWP.leads (Leads.rowEq 0 rfl (congrArg (fun t => [AV.agg [int kd, int nm, str t, .val (.slice none 0 0)]]) (if_neg (fun q => c2 q.2) : (if kd = 4 ∧ t = old then name else t) = t).symm)) ?_
        refine AWP.skip ?_
        exact Leads.keepR (KeepR.cons 0 rfl (KeepR.cons 0 rfl (KeepR.cons 0 rfl KeepR.nil))) ⟨rfl, rfl, rfl, rfl, rfl, trivial⟩
    · replace c1 := ne_of_beq_false c1
      refine AOps.leads (Leads.rowEq 0 rfl (congrArg (fun t => [AV.agg [int kd, int nm, str t, .val (.slice none 0 0)]]) (if_neg (fun q => c1 q.1) : (if kd = 4 ∧ t = old then name else t) = t).symm)) ?_
      refine AOps.off' rfl rfl rfl rfl ?_
      refine AOps.off' rfl rfl rfl rfl ?_
      refine AOps.off' rfl rfl rfl rfl ?_
      refine AOps.off' rfl rfl rfl rfl ?_
      refine Y (Yields.pick_false rfl rfl) rfl ?_
      refine AOps.nil ?_
      refine AWP.cond rfl (fun h => absurd h (by decide)) (fun _ => ?_)
      refine AWP.skip ?_
      exact Leads.keepR (KeepR.cons 0 rfl (KeepR.cons 0 rfl (KeepR.cons 0 rfl KeepR.nil))) ⟨rfl, rfl, rfl, rfl, rfl, trivial⟩
  · skip
    refine AWP.leads (Leads.rowWk 0 0 rfl rfl (Wk.agg (ps := [_, _, _, .loc none 0 0 0 4]) ⟨Wk.refl _, Wk.refl _, Wk.refl _, Wk.nilLoc (n := 4), trivial⟩)) ?_
    refine AWP.leads (Leads.row0 4) ?_
    refine AWP.seq ?_
    refine AWP.seq ?_
    refine AWP.region ?_
    refine Y (Yields.fieldAddr_ptr fo30_3 rfl) rfl ?_
    refine Y (Yields.load_ptr_field (j := 3) kd28 rfl rfl rfl rfl rfl rfl rfl) rfl ?_
    refine Y (Yields.len_ro sl28 rfl) rfl ?_
    refine Y (mv rfl) rfl ?_
    refine AOps.nil ?_
    refine AWP.block ?_
    refine AWP.loopV (α := Option Nat × Nat) (fun pp : Option Nat × Nat => match pp with | (B, i) => ⟨[(1, str old), (2, str name), (6, .ptr (some b2) 0 0 4), (7, .ptr (some b3) 0 0 4), (24, .ro 4 (Tr.avs ks) [] false), (25, int (Tr.avs ks).length), (26, int i)], [(some b3, ⟨4, [.agg [int kd, int nm, str (if kd = 4 ∧ t = old then name else t), .loc B 0 i i 4]]⟩), (B, ⟨4, Tr.avXs Tr.nosp (renK old name (ks.take i))⟩), (some b2, ⟨4, [zero4]⟩)]⟩) (fun pp : Option Nat × Nat => match pp with | (B, i) => i ≤ ks.length) (fun pp : Option Nat × Nat => match pp with | (B, i) => ks.length - i) ((none, 0)) ?_ ?_ ?_
    · exact Leads.keepR (KeepR.cons 1 rfl (KeepR.cons 0 rfl (KeepR.cons 0 rfl KeepR.nil))) ⟨rfl, rfl, rfl, rfl, rfl, rfl, rfl, trivial⟩
    · show 0 ≤ ks.length
      exact Nat.zero_le _
    · rintro ⟨B, i⟩ hinv
      replace hinv : i ≤ ks.length := hinv
      show AWP _ _ _ _ ⟨[(1, str old), (2, str name), (6, .ptr (some b2) 0 0 4), (7, .ptr (some b3) 0 0 4), (24, .ro 4 (Tr.avs ks) [] false), (25, int (Tr.avs ks).length), (26, int i)], [(some b3, ⟨4, [.agg [int kd, int nm, str (if kd = 4 ∧ t = old then name else t), .loc B 0 i i 4]]⟩), (B, ⟨4, Tr.avXs Tr.nosp (renK old name (ks.take i))⟩), (some b2, ⟨4, [zero4]⟩)]⟩
      refine AWP.seq ?_
      refine AWP.region ?_
      refine Y (bn rfl rfl BinR.lss rfl) rfl ?_
      refine AOps.nil ?_
      refine AWP.seq ?_
      refine AWP.condT rfl (fun g => ?_) (fun g => ?_)
      · replace g := of_decide_eq_true g
        obtain ⟨k, hk, hd⟩ := drop_at (l := ks) (i := i) (by omega)
        have hA : (Tr.avXs Tr.nosp (renK old name (ks.take i))).length = i := by rw [Tr.avXs_length, renK_length, List.length_take]; omega
        obtain ⟨ckd, cnm, ct, cks⟩ := k
        refine AWP.skip ?_
        refine AWP.seq ?_
        refine AWP.block ?_
        refine AWP.seq ?_
        refine AWP.region ?_
        refine Y (Yields.idx_roN sl28 rfl rfl rfl rfl (by omega)) rfl ?_
        refine Y (Yields.load_rop_aggV kd30 rfl (Tr.avs_at hk) rfl) rfl ?_
        refine AOps.alloc rfl z30 rfl rfl fun b1 => ?_
        refine AOps.store (j := 0) kd30 rfl rfl rfl rfl rfl rfl ?_
        refine AOps.nil ?_
        refine AWP.prune (tm' := [(1, _), (2, _), (6, _), (7, _), (24, _), (25, _), (26, _), (27, _), (9, _)]) ⟨rfl, rfl, rfl, rfl, rfl, rfl, rfl, rfl, rfl, trivial⟩ ?_
        refine AWP.drawnS [(5, 6)] 7 mixed rfl rfl rfl rfl rfl ?_
        refine DU (tm' := [(7, _)]) ⟨rfl, trivial⟩ rfl (DStep.yields (Yields.fieldAddr_ptr fo30_3 rfl)) rfl ?_
        refine DU (tm' := [(30, _)]) ⟨rfl, trivial⟩ rfl (DStep.yields (Yields.load_ptr_field (j := 1) kd28 rfl rfl rfl rfl rfl rfl rfl)) rfl ?_
        refine DU (tm' := [(9, _)]) ⟨rfl, trivial⟩ rfl (DStep.yields (Yields.load_ptr_agg (j := 0) kd30 rfl rfl rfl rfl)) rfl ?_
        refine DU (tm' := [(1, _)]) ⟨rfl, trivial⟩ rfl (DStep.yields (mv rfl)) rfl ?_
        refine DU (tm' := [(2, _)]) ⟨rfl, trivial⟩ rfl (DStep.yields (mv rfl)) rfl ?_
        refine DUs (tm' := [(32, _), (33, _), (34, _)]) ⟨rfl, rfl, rfl, trivial⟩ rfl rfl (DStepU.callF (AH.toOwn (by simp [plainL, plainV, Tr.plain_av]) (ih _ (List.mem_of_getElem? hk) (Tr.bnds_get hk3 hk)) (fun r hp' h => ownT.close h)) rfl (WkL.refl _)) rfl ?_
        refine DUs (tm' := []) trivial rfl rfl (DStepU.buildOne sl28 z30 (Tr.avX_cell _ _) (Tr.avX_width _ _) rfl) rfl ?_
        refine DOpsU.nil ?_
        intro Bs
        refine AOps.unseal 0 0 rfl rfl (openT_to _ _ _ _) fun Bk => ?_
        refine AOps.appendE (j := 4) sl28 z30 rfl rfl rfl rfl rfl hA rfl (src_row (j2 := 1) rfl rfl rfl) (show i + 1 = i + 1 from rfl) rfl (by omega) (by omega) fun Bn => ?_
        refine AOps.leads (Leads.seal 3 i rfl (get_one hA) (sealT _ _ _ _ _)) ?_
        refine AOps.leads (Leads.rowEq 3 rfl (show (Tr.avXs Tr.nosp (renK old name (ks.take i)) ++ [openT Bk (renT old name (.mk ckd cnm ct cks))]).set i (Tr.avX Tr.nosp (renT old name (.mk ckd cnm ct cks))) = Tr.avXs Tr.nosp (renK old name (ks.take (i + 1))) by rw [app_one hA, avXs_one, ← renK_take old name hk])) ?_
        refine Y (Yields.fieldAddr_ptr fo30_3 rfl) rfl ?_
        refine AOps.storeField (j := 2) kd28 rfl rfl rfl rfl rfl rfl rfl ?_
        refine AOps.nil ?_
        refine AWP.region ?_
        refine Y (bn rfl rfl (BinR.addI (by omega) (by omega)) rfl) rfl ?_
        refine Y (mv rfl) rfl ?_
        refine AOps.nil ?_
        refine ⟨(Bn, i + 1), ?_, ?_, ?_⟩
        · show ks.length - (i + 1) < ks.length - i
          omega
        · show (i + 1) ≤ ks.length
          omega
        · exact Leads.keepR (KeepR.cons 2 rfl (KeepR.cons 2 rfl (KeepR.cons 2 rfl KeepR.nil))) ⟨rfl, rfl, rfl, rfl, rfl, rfl, rfl, trivial⟩
      · replace g := of_decide_eq_false g
        have hi' : i = ks.length := by omega
        subst hi'
        refine AWP.exit ?_
        refine AWP.seq ?_
        refine AWP.region ?_
        refine Y (Yields.load_ptr_agg (j := 0) kd30 rfl rfl rfl rfl) rfl ?_
        refine AOps.store (j := 2) kd30 rfl rfl rfl rfl rfl rfl ?_
        refine AOps.nil ?_
        refine AWP.ret ⟨.inl rfl, ?_⟩
        exact RetH.of (rs := [.cell 6 30]) (vs := [_]) rfl ⟨resOne.cell (j := 2) rfl rfl kd30 rfl rfl rfl, trivial⟩ (KeepR.cons 1 rfl KeepR.nil) (⟨B, by rw [renT, openT, renK_length]; rfl, by rw [renT, Tr.kids, List.take_length]⟩)
theorem srenamed_AH (old name : ByteArray) (k : Tr) : k.bnd 1000000 → FnH 34 [] [k.av, str old, str name] (ownT (renT old name k)) := by
  induction k using Tr.ind
  rename_i kd nm t ks ih
  intro hk
  simp only [Tr.bnd] at hk
  obtain ⟨hk1, hk2, hk3⟩ := hk
  have hlen := Tr.avs_length ks
  refine AH.intro Try.func34 nm34 rfl rfl rfl fun w0 ok0 own0 => ?_
  refine AWP.seq ?_
  refine AWP.region ?_
  refine AOps.box rfl rfl rfl rfl fun b1 => ?_
  refine AOps.alloc rfl z30 rfl rfl fun b2 => ?_
  refine AOps.nil ?_
  refine AWP.seq ?_
  refine AWP.region ?_
  refine Y (Yields.load_ptr_agg (j := 1) kd30 rfl rfl rfl rfl) rfl ?_
  refine AOps.alloc rfl z30 rfl rfl fun b3 => ?_
  refine AOps.store (j := 0) kd30 rfl rfl rfl rfl rfl rfl ?_
  refine AOps.nil ?_
  refine AWP.seq ?_
  refine AWP.region ?_
  refine Y (Yields.fieldAddr_ptr fo30_3 rfl) rfl ?_
  refine AOps.storeField (j := 0) kd28 rfl rfl rfl rfl rfl rfl rfl ?_
  refine AOps.nil ?_
  refine AWP.midT [(1, str old), (2, str name), (3, .ptr (some b1) 0 0 4), (6, .ptr (some b2) 0 0 4), (7, .ptr (some b3) 0 0 4)] [(some b3, ⟨4, [.agg [int kd, int nm, str (if kd = 4 ∧ t = old then name else t), .val (.slice none 0 0)]]⟩), (some b2, ⟨4, [zero4]⟩), (some b1, ⟨4, [Tr.av (.mk kd nm t ks)]⟩)] ?_ ?_
  · skip
    refine AWP.seq ?_
    refine AWP.region ?_
    refine Y (Yields.fieldAddr_ptr fo30_0 rfl) rfl ?_
    refine Y (Yields.load_ptr_field (j := 2) kd3 rfl rfl rfl rfl rfl rfl rfl) rfl ?_
    refine Y (bn rfl rfl BinR.eql rfl) rfl ?_
    refine Y (mv rfl) rfl ?_
    refine AOps.split 14 rfl (fun c1 => ?_) (fun c1 => ?_)
    · replace c1 := eq_of_beq c1
      refine AOps.on rfl rfl ?_
      refine Y (Yields.fieldAddr_ptr fo30_2 rfl) rfl ?_
      refine AOps.on rfl rfl ?_
      refine Y (Yields.load_ptr_field (j := 2) kd9 rfl rfl rfl rfl rfl rfl rfl) rfl ?_
      refine AOps.on rfl rfl ?_
      refine Y (mv rfl) rfl ?_
      refine AOps.on rfl rfl ?_
      refine Y (bn rfl rfl BinR.seql rfl) rfl ?_
      refine Y (Yields.pick_true rfl rfl) rfl ?_
      refine AOps.nil ?_
      refine AWP.condT rfl (fun c2 => ?_) (fun c2 => ?_)
      · replace c2 := of_decide_eq_true c2
        refine AWP.region ?_
        refine Y (mv rfl) rfl ?_
        refine Y (Yields.fieldAddr_ptr fo30_2 rfl) rfl ?_
        refine AOps.storeField (j := 0) kd9 rfl rfl rfl rfl rfl rfl rfl ?_
        refine AOps.nil ?_
        refine Leads.trans (Leads.rowEq 0 rfl (congrArg (fun t => [AV.agg [int kd, int nm, str t, .val (.slice none 0 0)]]) (if_pos ⟨c1, c2⟩ : (if kd = 4 ∧ t = old then name else t) = name).symm)) ?_
        exact Leads.keepR (KeepR.cons 0 rfl (KeepR.cons 0 rfl (KeepR.cons 0 rfl KeepR.nil))) ⟨rfl, rfl, rfl, rfl, rfl, trivial⟩
      · replace c2 := of_decide_eq_false c2
        refine AWP.leads (Leads.rowEq 0 rfl (congrArg (fun t => [AV.agg [int kd, int nm, str t, .val (.slice none 0 0)]]) (if_neg (fun q => c2 q.2) : (if kd = 4 ∧ t = old then name else t) = t).symm)) ?_
        refine AWP.skip ?_
        exact Leads.keepR (KeepR.cons 0 rfl (KeepR.cons 0 rfl (KeepR.cons 0 rfl KeepR.nil))) ⟨rfl, rfl, rfl, rfl, rfl, trivial⟩
    · replace c1 := ne_of_beq_false c1
      refine AOps.leads (Leads.rowEq 0 rfl (congrArg (fun t => [AV.agg [int kd, int nm, str t, .val (.slice none 0 0)]]) (if_neg (fun q => c1 q.1) : (if kd = 4 ∧ t = old then name else t) = t).symm)) ?_
      refine AOps.off' rfl rfl rfl rfl ?_
      refine AOps.off' rfl rfl rfl rfl ?_
      refine AOps.off' rfl rfl rfl rfl ?_
      refine AOps.off' rfl rfl rfl rfl ?_
      refine Y (Yields.pick_false rfl rfl) rfl ?_
      refine AOps.nil ?_
      refine AWP.cond rfl (fun h => absurd h (by decide)) (fun _ => ?_)
      refine AWP.skip ?_
      exact Leads.keepR (KeepR.cons 0 rfl (KeepR.cons 0 rfl (KeepR.cons 0 rfl KeepR.nil))) ⟨rfl, rfl, rfl, rfl, rfl, trivial⟩
  · skip
    refine AWP.leads (Leads.rowWk 0 0 rfl rfl (Wk.agg (ps := [_, _, _, .loc none 0 0 0 4]) ⟨Wk.refl _, Wk.refl _, Wk.refl _, Wk.nilLoc (n := 4), trivial⟩)) ?_
    refine AWP.leads (Leads.row0 4) ?_
    refine AWP.seq ?_
    refine AWP.seq ?_
    refine AWP.region ?_
    refine Y (ass rfl) rfl ?_
    refine AOps.nil ?_
    refine AWP.block ?_
    refine AWP.loopV (α := Option Nat × Nat) (fun pp : Option Nat × Nat => match pp with | (B, i) => ⟨[(1, str old), (2, str name), (3, .ptr (some b1) 0 0 4), (6, .ptr (some b2) 0 0 4), (7, .ptr (some b3) 0 0 4), (8, int i)], [(some b3, ⟨4, [.agg [int kd, int nm, str (if kd = 4 ∧ t = old then name else t), .loc B 0 i i 4]]⟩), (B, ⟨4, Tr.avXs Tr.nosp (renK old name (ks.take i))⟩), (some b2, ⟨4, [zero4]⟩), (some b1, ⟨4, [Tr.av (.mk kd nm t ks)]⟩)]⟩) (fun pp : Option Nat × Nat => match pp with | (B, i) => i ≤ ks.length) (fun pp : Option Nat × Nat => match pp with | (B, i) => ks.length - i) ((none, 0)) ?_ ?_ ?_
    · exact Leads.keepR (KeepR.cons 1 rfl (KeepR.cons 0 rfl (KeepR.cons 0 rfl (KeepR.cons 0 rfl KeepR.nil)))) ⟨rfl, rfl, rfl, rfl, rfl, rfl, trivial⟩
    · show 0 ≤ ks.length
      exact Nat.zero_le _
    · rintro ⟨B, i⟩ hinv
      replace hinv : i ≤ ks.length := hinv
      show AWP _ _ _ _ ⟨[(1, str old), (2, str name), (3, .ptr (some b1) 0 0 4), (6, .ptr (some b2) 0 0 4), (7, .ptr (some b3) 0 0 4), (8, int i)], [(some b3, ⟨4, [.agg [int kd, int nm, str (if kd = 4 ∧ t = old then name else t), .loc B 0 i i 4]]⟩), (B, ⟨4, Tr.avXs Tr.nosp (renK old name (ks.take i))⟩), (some b2, ⟨4, [zero4]⟩), (some b1, ⟨4, [Tr.av (.mk kd nm t ks)]⟩)]⟩
      refine AWP.seq ?_
      refine AWP.seq ?_
      refine AWP.region ?_
      refine Y (mv rfl) rfl ?_
      refine Y (Yields.fieldAddr_ptr fo30_3 rfl) rfl ?_
      refine Y (Yields.load_ptr_field (j := 3) kd28 rfl rfl rfl rfl rfl rfl rfl) rfl ?_
      refine Y (Yields.len_ro sl28 rfl) rfl ?_
      refine Y (bn rfl rfl BinR.lss rfl) rfl ?_
      refine AOps.nil ?_
      refine AWP.condT rfl (fun g => ?_) (fun g => ?_)
      · replace g := of_decide_eq_true g
        obtain ⟨k, hk, hd⟩ := drop_at (l := ks) (i := i) (by omega)
        have hA : (Tr.avXs Tr.nosp (renK old name (ks.take i))).length = i := by rw [Tr.avXs_length, renK_length, List.length_take]; omega
        obtain ⟨ckd, cnm, ct, cks⟩ := k
        refine AWP.skip ?_
        refine AWP.seq ?_
        refine AWP.block ?_
        refine AWP.prune (tm' := [(1, _), (2, _), (3, _), (6, _), (7, _), (8, _), (26, _)]) ⟨rfl, rfl, rfl, rfl, rfl, rfl, rfl, trivial⟩ ?_
        refine AWP.drawnS [(9, 10)] 11 mixed rfl rfl rfl rfl rfl ?_
        refine DU (tm' := [(7, _)]) ⟨rfl, trivial⟩ rfl (DStep.yields (Yields.fieldAddr_ptr fo30_3 rfl)) rfl ?_
        refine DU (tm' := [(29, _)]) ⟨rfl, trivial⟩ rfl (DStep.yields (Yields.load_ptr_field (j := 0) kd28 rfl rfl rfl rfl rfl rfl rfl)) rfl ?_
        refine DU (tm' := [(3, _)]) ⟨rfl, trivial⟩ rfl (DStep.yields (Yields.fieldAddr_ptr fo30_3 rfl)) rfl ?_
        refine DU (tm' := [(31, _)]) ⟨rfl, trivial⟩ rfl (DStep.yields (Yields.load_ptr_field (j := 3) kd28 rfl rfl rfl rfl rfl rfl rfl)) rfl ?_
        refine DU (tm' := [(8, _)]) ⟨rfl, trivial⟩ rfl (DStep.yields (mv rfl)) rfl ?_
        refine DU (tm' := [(32, _), (33, _)]) ⟨rfl, rfl, trivial⟩ rfl (DStep.yields (Yields.idx_roN sl28 rfl rfl rfl rfl (by omega))) rfl ?_
        refine DU (tm' := [(34, _)]) ⟨rfl, trivial⟩ rfl (DStep.yields (Yields.load_rop_aggV kd30 rfl (Tr.avs_at hk) rfl)) rfl ?_
        refine DU (tm' := [(1, _)]) ⟨rfl, trivial⟩ rfl (DStep.yields (mv rfl)) rfl ?_
        refine DU (tm' := [(2, _)]) ⟨rfl, trivial⟩ rfl (DStep.yields (mv rfl)) rfl ?_
        refine DUs (tm' := [(35, _), (36, _), (37, _)]) ⟨rfl, rfl, rfl, trivial⟩ rfl rfl (DStepU.callF (AH.toOwn (by simp [plainL, plainV, Tr.plain_av]) (ih _ (List.mem_of_getElem? hk) (Tr.bnds_get hk3 hk)) (fun r hp' h => ownT.close h)) rfl (WkL.refl _)) rfl ?_
        refine DUs (tm' := []) trivial rfl rfl (DStepU.buildOne sl28 z30 (Tr.avX_cell _ _) (Tr.avX_width _ _) rfl) rfl ?_
        refine DOpsU.nil ?_
        intro Bs
        refine AOps.unseal 0 0 rfl rfl (openT_to _ _ _ _) fun Bk => ?_
        refine AOps.appendE (j := 3) sl28 z30 rfl rfl rfl rfl rfl hA rfl (src_row (j2 := 1) rfl rfl rfl) (show i + 1 = i + 1 from rfl) rfl (by omega) (by omega) fun Bn => ?_
        refine AOps.leads (Leads.seal 2 i rfl (get_one hA) (sealT _ _ _ _ _)) ?_
        refine AOps.leads (Leads.rowEq 2 rfl (show (Tr.avXs Tr.nosp (renK old name (ks.take i)) ++ [openT Bk (renT old name (.mk ckd cnm ct cks))]).set i (Tr.avX Tr.nosp (renT old name (.mk ckd cnm ct cks))) = Tr.avXs Tr.nosp (renK old name (ks.take (i + 1))) by rw [app_one hA, avXs_one, ← renK_take old name hk])) ?_
        refine Y (Yields.fieldAddr_ptr fo30_3 rfl) rfl ?_
        refine AOps.storeField (j := 1) kd28 rfl rfl rfl rfl rfl rfl rfl ?_
        refine AOps.nil ?_
        refine AWP.region ?_
        refine Y (mv rfl) rfl ?_
        refine Y (bn rfl rfl (BinR.addI (by omega) (by omega)) rfl) rfl ?_
        refine Y (ass rfl) rfl ?_
        refine AOps.nil ?_
        refine ⟨(Bn, i + 1), ?_, ?_, ?_⟩
        · show ks.length - (i + 1) < ks.length - i
          omega
        · show (i + 1) ≤ ks.length
          omega
        · exact Leads.keepR (KeepR.cons 1 rfl (KeepR.cons 1 rfl (KeepR.cons 1 rfl (KeepR.cons 1 rfl KeepR.nil)))) ⟨rfl, rfl, rfl, rfl, rfl, rfl, trivial⟩
      · replace g := of_decide_eq_false g
        have hi' : i = ks.length := by omega
        subst hi'
        refine AWP.exit ?_
        refine AWP.seq ?_
        refine AWP.region ?_
        refine Y (Yields.load_ptr_agg (j := 0) kd30 rfl rfl rfl rfl) rfl ?_
        refine AOps.store (j := 2) kd30 rfl rfl rfl rfl rfl rfl ?_
        refine AOps.nil ?_
        refine AWP.ret ⟨.inl rfl, ?_⟩
        exact RetH.of (rs := [.cell 6 30]) (vs := [_]) rfl ⟨resOne.cell (j := 2) rfl rfl kd30 rfl rfl rfl, trivial⟩ (KeepR.cons 1 rfl KeepR.nil) (⟨B, by rw [renT, openT, renK_length]; rfl, by rw [renT, Tr.kids, List.take_length]⟩)

/-- A value without anything. -/
def zeroTr : Tr := .mk 0 0 ⟨#[]⟩ []
/-- What ValueRenamed returns. -/
def renE (old name : ByteArray) (k : Tr) : Tr := if validV k 6 = true ∧ isNameL name.data.toList = true then renT old name k else zeroTr
def renB (name : ByteArray) (k : Tr) : Bool := validV k 6 && isNameL name.data.toList
/-- A tree of one's own and a truth. -/
def ownTB (k : Tr) (b : Bool) : AV → Hp → Prop := fun r hp' => ∃ B : Option Nat, r = .tup [openT B k, bool b] ∧ hp' = [(B, ⟨4, Tr.avXs Tr.nosp k.kids⟩)]
theorem ownTB.fz {k : Tr} {b : Bool} {r : AV} {hp' : Hp} (h : ownTB k b r hp') : Fz hp' r (.tup [k.av, bool b]) := by
  obtain ⟨B, rfl, rfl⟩ := h
  exact Fz.tup ⟨(bor_avT (j := 0) k rfl).fz, Fz.refl, trivial⟩
theorem ownTB.free {k : Tr} {b : Bool} {r : AV} {hp' : Hp} (h : ownTB k b r hp') : Free r ∧ ∀ B row, (B, row) ∈ hp' → FreeL row.xs := by
  obtain ⟨B, rfl, rfl⟩ := h
  obtain ⟨h1, h2⟩ := ownT.free (k := k) ⟨B, rfl, rfl⟩
  exact ⟨Free.tup ⟨h1, Free.val, trivial⟩, h2⟩
theorem renE_neg {old name : ByteArray} {k : Tr} (h : ¬ (validV k 6 = true ∧ isNameL name.data.toList = true)) : renE old name k = zeroTr := if_neg h
theorem iValueRenamed_AH (old name : ByteArray) (k : Tr) (hk : k.bnd 1000000) (hn : name.size ≤ 140737488355328) : FnH 17 [] [k.av, str old, str name] (ownTB (renE old name k) (renB name k)) := by
  obtain ⟨kd, nm, t, ks⟩ := k
  refine AH.intro Try.func17 nm17 rfl rfl rfl fun w0 ok0 own0 => ?_
  refine AWP.seq ?_
  refine AWP.region ?_
  refine AOps.box rfl rfl rfl rfl fun b1 => ?_
  refine AOps.alloc rfl z30 rfl rfl fun b2 => ?_
  refine Y (ass rfl) rfl ?_
  refine AOps.nil ?_
  refine AWP.seq ?_
  refine AWP.seq ?_
  refine AWP.region ?_
  refine Y (Yields.load_ptr_agg (j := 1) kd30 rfl rfl rfl rfl) rfl ?_
  refine AOps.callro (iValueOk_AF (.mk kd nm t ks) hk) rfl rfl rfl ?_
  refine Y (Yields.not rfl) rfl ?_
  refine Y (mv rfl) rfl ?_
  refine AOps.split 11 rfl (fun h => ?_) (fun h => ?_)
  · skip
    have h : ¬ validV (.mk kd nm t ks) 6 = true := by simpa using h
    refine AOps.off' rfl rfl rfl rfl ?_
    refine AOps.off' rfl rfl rfl rfl ?_
    refine AOps.off' rfl rfl rfl rfl ?_
    refine Y (Yields.pick_true rfl rfl) rfl ?_
    refine AOps.nil ?_
    refine AWP.cond rfl (fun _ => ?_) (fun h => absurd h (by decide))
    refine AWP.seq ?_
    refine AWP.region ?_
    refine Y (Yields.build pl30 z30 rfl rfl) rfl ?_
    refine AOps.store (j := 0) kd30 rfl rfl rfl rfl rfl rfl ?_
    refine Y (ass rfl) rfl ?_
    refine AOps.nil ?_
    refine AWP.leads (Leads.rowWk 0 0 rfl rfl (Wk.agg (ps := [_, _, _, .loc none 0 0 0 4]) ⟨Wk.refl _, Wk.refl _, Wk.refl _, Wk.nilLoc (n := 4), trivial⟩)) ?_
    refine AWP.leads (Leads.row0 4) ?_
    refine AWP.ret ⟨.inl rfl, ?_⟩
    exact RetH.of (rs := [.cell 6 30, .tmp 7]) (vs := [_, _]) rfl ⟨resOne.cell (j := 1) rfl rfl kd30 rfl rfl rfl, rfl, trivial⟩ (KeepR.cons 0 rfl KeepR.nil) (⟨none, by rw [renE_neg (fun q => h q.1), renB, Bool.eq_false_iff.2 h]; rfl, by rw [renE_neg (fun q => h q.1)]; rfl⟩)
  · skip
    have h : validV (.mk kd nm t ks) 6 = true := by simpa using h
    refine AOps.on rfl rfl ?_
    refine Y (mv rfl) rfl ?_
    refine AOps.on rfl rfl ?_
    refine AOps.callro (nameOk_AF name hn) rfl rfl rfl ?_
    refine AOps.on rfl rfl ?_
    refine Y (Yields.not rfl) rfl ?_
    refine Y (Yields.pick_false rfl rfl) rfl ?_
    refine AOps.nil ?_
    refine AWP.condT rfl (fun h2 => ?_) (fun h2 => ?_)
    · skip
      refine AWP.seq ?_
      refine AWP.region ?_
      have h2 : ¬ isNameL name.data.toList = true := by simpa using h2
      refine Y (Yields.build pl30 z30 rfl rfl) rfl ?_
      refine AOps.store (j := 0) kd30 rfl rfl rfl rfl rfl rfl ?_
      refine Y (ass rfl) rfl ?_
      refine AOps.nil ?_
      refine AWP.leads (Leads.rowWk 0 0 rfl rfl (Wk.agg (ps := [_, _, _, .loc none 0 0 0 4]) ⟨Wk.refl _, Wk.refl _, Wk.refl _, Wk.nilLoc (n := 4), trivial⟩)) ?_
      refine AWP.leads (Leads.row0 4) ?_
      refine AWP.ret ⟨.inl rfl, ?_⟩
      exact RetH.of (rs := [.cell 6 30, .tmp 7]) (vs := [_, _]) rfl ⟨resOne.cell (j := 1) rfl rfl kd30 rfl rfl rfl, rfl, trivial⟩ (KeepR.cons 0 rfl KeepR.nil) (⟨none, by rw [renE_neg (fun q => h2 q.2), renB, Bool.eq_false_iff.2 h2, Bool.and_false]; rfl, by rw [renE_neg (fun q => h2 q.2)]; rfl⟩)
    · skip
      have h2 : isNameL name.data.toList = true := by simpa using h2
      refine AWP.skip ?_
      refine AWP.seq ?_
      refine AWP.region ?_
      refine Y (Yields.load_ptr_agg (j := 1) kd30 rfl rfl rfl rfl) rfl ?_
      refine Y (mv rfl) rfl ?_
      refine Y (mv rfl) rfl ?_
      refine AOps.callH (.inl trivial) (irenamed_AH old name (.mk kd nm t ks) hk) rfl rfl rfl (WkL.refl _) ?_
      rintro _ _ ⟨Bk, rfl, rfl⟩
      refine AOps.store (j := 1) kd30 rfl rfl rfl rfl rfl rfl ?_
      refine Y (ass rfl) rfl ?_
      refine AOps.nil ?_
      refine AWP.ret ⟨.inl rfl, ?_⟩
      exact RetH.of (rs := [.cell 6 30, .tmp 7]) (vs := [_, _]) rfl ⟨resOne.cell (j := 1) rfl rfl kd30 rfl rfl rfl, rfl, trivial⟩ (KeepR.cons 0 rfl KeepR.nil) (⟨Bk, by rw [renE, if_pos ⟨h, h2⟩, renB, h, h2]; rfl, by rw [renE, if_pos ⟨h, h2⟩]⟩)
theorem sValueRenamed_AH (old name : ByteArray) (k : Tr) (hk : k.bnd 1000000) (hn : name.size ≤ 140737488355328) : FnH 18 [] [k.av, str old, str name] (ownTB (renE old name k) (renB name k)) := by
  obtain ⟨kd, nm, t, ks⟩ := k
  refine AH.intro Try.func18 nm18 rfl rfl rfl fun w0 ok0 own0 => ?_
  refine AWP.seq ?_
  refine AWP.region ?_
  refine AOps.box rfl rfl rfl rfl fun b1 => ?_
  refine AOps.alloc rfl z30 rfl rfl fun b2 => ?_
  refine Y (ass rfl) rfl ?_
  refine AOps.nil ?_
  refine AWP.seq ?_
  refine AWP.seq ?_
  refine AWP.region ?_
  refine Y (Yields.load_ptr_agg (j := 1) kd30 rfl rfl rfl rfl) rfl ?_
  refine AOps.callro (sValueOk_AF (.mk kd nm t ks) hk) rfl rfl rfl ?_
  refine Y (Yields.not rfl) rfl ?_
  refine Y (mv rfl) rfl ?_
  refine AOps.split 11 rfl (fun h => ?_) (fun h => ?_)
  · skip
    have h : ¬ validV (.mk kd nm t ks) 6 = true := by simpa using h
    refine AOps.off' rfl rfl rfl rfl ?_
    refine AOps.off' rfl rfl rfl rfl ?_
    refine AOps.off' rfl rfl rfl rfl ?_
    refine Y (Yields.pick_true rfl rfl) rfl ?_
    refine AOps.nil ?_
    refine AWP.cond rfl (fun _ => ?_) (fun h => absurd h (by decide))
    refine AWP.seq ?_
    refine AWP.region ?_
    refine Y (Yields.build pl30 z30 rfl rfl) rfl ?_
    refine AOps.store (j := 0) kd30 rfl rfl rfl rfl rfl rfl ?_
    refine Y (ass rfl) rfl ?_
    refine AOps.nil ?_
    refine AWP.leads (Leads.rowWk 0 0 rfl rfl (Wk.agg (ps := [_, _, _, .loc none 0 0 0 4]) ⟨Wk.refl _, Wk.refl _, Wk.refl _, Wk.nilLoc (n := 4), trivial⟩)) ?_
    refine AWP.leads (Leads.row0 4) ?_
    refine AWP.ret ⟨.inl rfl, ?_⟩
    exact RetH.of (rs := [.cell 6 30, .tmp 7]) (vs := [_, _]) rfl ⟨resOne.cell (j := 1) rfl rfl kd30 rfl rfl rfl, rfl, trivial⟩ (KeepR.cons 0 rfl KeepR.nil) (⟨none, by rw [renE_neg (fun q => h q.1), renB, Bool.eq_false_iff.2 h]; rfl, by rw [renE_neg (fun q => h q.1)]; rfl⟩)
  · skip
    have h : validV (.mk kd nm t ks) 6 = true := by simpa using h
    refine AOps.on rfl rfl ?_
    refine Y (mv rfl) rfl ?_
    refine AOps.on rfl rfl ?_
    refine AOps.callro (isName_AF name hn) rfl rfl rfl ?_
    refine AOps.on rfl rfl ?_
    refine Y (Yields.not rfl) rfl ?_
    refine Y (Yields.pick_false rfl rfl) rfl ?_
    refine AOps.nil ?_
    refine AWP.condT rfl (fun h2 => ?_) (fun h2 => ?_)
    · skip
      refine AWP.seq ?_
      refine AWP.region ?_
      have h2 : ¬ isNameL name.data.toList = true := by simpa using h2
      refine Y (Yields.build pl30 z30 rfl rfl) rfl ?_
      refine AOps.store (j := 0) kd30 rfl rfl rfl rfl rfl rfl ?_
      refine Y (ass rfl) rfl ?_
      refine AOps.nil ?_
      refine AWP.leads (Leads.rowWk 0 0 rfl rfl (Wk.agg (ps := [_, _, _, .loc none 0 0 0 4]) ⟨Wk.refl _, Wk.refl _, Wk.refl _, Wk.nilLoc (n := 4), trivial⟩)) ?_
      refine AWP.leads (Leads.row0 4) ?_
      refine AWP.ret ⟨.inl rfl, ?_⟩
      exact RetH.of (rs := [.cell 6 30, .tmp 7]) (vs := [_, _]) rfl ⟨resOne.cell (j := 1) rfl rfl kd30 rfl rfl rfl, rfl, trivial⟩ (KeepR.cons 0 rfl KeepR.nil) (⟨none, by rw [renE_neg (fun q => h2 q.2), renB, Bool.eq_false_iff.2 h2, Bool.and_false]; rfl, by rw [renE_neg (fun q => h2 q.2)]; rfl⟩)
    · skip
      have h2 : isNameL name.data.toList = true := by simpa using h2
      refine AWP.skip ?_
      refine AWP.seq ?_
      refine AWP.region ?_
      refine Y (Yields.load_ptr_agg (j := 1) kd30 rfl rfl rfl rfl) rfl ?_
      refine Y (mv rfl) rfl ?_
      refine Y (mv rfl) rfl ?_
      refine AOps.callH (.inl trivial) (srenamed_AH old name (.mk kd nm t ks) hk) rfl rfl rfl (WkL.refl _) ?_
      rintro _ _ ⟨Bk, rfl, rfl⟩
      refine AOps.store (j := 1) kd30 rfl rfl rfl rfl rfl rfl ?_
      refine Y (ass rfl) rfl ?_
      refine AOps.nil ?_
      refine AWP.ret ⟨.inl rfl, ?_⟩
      exact RetH.of (rs := [.cell 6 30, .tmp 7]) (vs := [_, _]) rfl ⟨resOne.cell (j := 1) rfl rfl kd30 rfl rfl rfl, rfl, trivial⟩ (KeepR.cons 0 rfl KeepR.nil) (⟨Bk, by rw [renE, if_pos ⟨h, h2⟩, renB, h, h2]; rfl, by rw [renE, if_pos ⟨h, h2⟩]⟩)
theorem sValueRenamed_AF (old name : ByteArray) (k : Tr) (hk : k.bnd 1000000) (hn : name.size ≤ 140737488355328) : Fn 18 [k.av, str old, str name] (.tup [(renE old name k).av, bool (renB name k)]) :=
  AH.toF (by simp [plainL, plainV, Tr.plain_av]) (sValueRenamed_AH old name k hk hn) (fun r hp' h => ownTB.fz h)
theorem iValueRenamed_AF (old name : ByteArray) (k : Tr) (hk : k.bnd 1000000) (hn : name.size ≤ 140737488355328) : Fn 17 [k.av, str old, str name] (.tup [(renE old name k).av, bool (renB name k)]) :=
  AH.toF (by simp [plainL, plainV, Tr.plain_av]) (iValueRenamed_AH old name k hk hn) (fun r hp' h => ownTB.fz h)
mutual
theorem sizeT_ren (old name : ByteArray) : ∀ k, sizeT (renT old name k) = sizeT k
  | .mk k n t ks => by rw [renT, sizeT, sizeT, sizeTs_ren old name ks]
theorem sizeTs_ren (old name : ByteArray) : ∀ l, sizeTs (renK old name l) = sizeTs l
  | [] => by rw [renK]
  | k :: l => by rw [renK, sizeTs, sizeTs, sizeT_ren old name k, sizeTs_ren old name l]
end
mutual
theorem bnd_ren {N : Nat} (old name : ByteArray) (hn : name.size ≤ N) : ∀ k : Tr, k.bnd N → (renT old name k).bnd N
  | .mk k n t ks, h => by
    rw [renT]
    simp only [Tr.bnd] at h ⊢
    refine ⟨?_, by rw [renK_length]; exact h.2.1, bnds_ren old name hn ks h.2.2⟩
    split
    · exact hn
    · exact h.1
theorem bnds_ren {N : Nat} (old name : ByteArray) (hn : name.size ≤ N) : ∀ l : List Tr, Tr.bnds N l → Tr.bnds N (renK old name l)
  | [], _ => trivial
  | k :: l, h => ⟨bnd_ren old name hn k h.1, bnds_ren old name hn l h.2⟩
end
theorem renE_facts (old name : ByteArray) (k : Tr) (hk : k.bnd 1000000) (hn : name.size ≤ 1000000) : (renE old name k).bnd 1000000 ∧ sizeT (renE old name k) ≤ sizeT k := by
  unfold renE
  split
  · exact ⟨bnd_ren old name hn k hk, by rw [sizeT_ren]; omega⟩
  · refine ⟨by simp [zeroTr, Tr.bnd, Tr.bnds, ByteArray.size], ?_⟩
    have := sizeT_pos k
    rw [zeroTr, sizeT, sizeTs]; omega
end Go.Proofs.Ytnmodhbchfkfbaa
