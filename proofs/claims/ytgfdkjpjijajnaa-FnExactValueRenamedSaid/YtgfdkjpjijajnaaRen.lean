/- Values with records renamed. -/
import Derived.Test.YtgfdkjpjijajnaaHeld
import Derived.Test.YtgfdkjpjijajnaaVok
namespace Go.Proofs.Ytgfdkjpjijajnaa
open Go Go.Ax Go.Proofs
set_option linter.unusedVariables false
set_option linter.unusedSimpArgs false
set_option maxRecDepth 20000
section
variable (old name : ByteArray)
mutual
def renT : Tr → Tr
  | .mk k n t ks => .mk k n (if k = 4 ∧ t = old then name else t) (renK ks)
def renK : List Tr → List Tr
  | [] => []
  | k :: ks => renT k :: renK ks
end
theorem renK_length : ∀ l, (renK old name l).length = l.length
  | [] => rfl
  | k :: l => by rw [renK]; simp [renK_length l]
theorem renK_append : ∀ l m, renK old name (l ++ m) = renK old name l ++ renK old name m
  | [], m => rfl
  | k :: l, m => by simp [renK, renK_append l m]
theorem renK_take {l : List Tr} {i : Nat} {k : Tr} (h : l[i]? = some k) : renK old name (l.take (i + 1)) = renK old name (l.take i) ++ [renT old name k] := by
  rw [List.take_add_one, h, renK_append]; rfl
end
theorem avXs_one (sp : Nat → List AV) (l : List Tr) (k : Tr) : Tr.avXs sp l ++ [k.avX sp] = Tr.avXs sp (l ++ [k]) := by rw [Tr.avXs_append]; rfl

theorem irenamed_AH (old name : ByteArray) (k : Tr) : k.bnd 1000000 → FnH 72 [] [k.av, str old, str name] (ownT (renT old name k)) := by
  induction k using Tr.ind
  rename_i kd nm t ks ih
  intro hk
  simp only [Tr.bnd] at hk
  obtain ⟨hk1, hk2, hk3⟩ := hk
  have hlen := Tr.avs_length ks
  refine AH.intro Try.func72 nm72 rfl rfl rfl fun w0 ok0 own0 => ?_
  refine AWP.seq ?_
  refine AWP.region ?_
  refine AOps.box rfl rfl rfl rfl fun b1 => ?_
  refine AOps.alloc rfl z33 rfl rfl fun b2 => ?_
  refine AOps.nil ?_
  refine AWP.seq ?_
  refine AWP.region ?_
  refine Y (Yields.load_ptr_agg (j := 1) kd33 rfl rfl rfl rfl) rfl ?_
  refine AOps.alloc rfl z33 rfl rfl fun b3 => ?_
  refine AOps.store (j := 0) kd33 rfl rfl rfl rfl rfl rfl ?_
  refine AOps.nil ?_
  refine AWP.seq ?_
  refine AWP.region ?_
  refine Y (Yields.fieldAddr_ptr fo33_3 rfl) rfl ?_
  refine AOps.storeField (j := 0) kd31 rfl rfl rfl rfl rfl rfl rfl ?_
  refine AOps.nil ?_
  refine AWP.midT [(1, str old), (2, str name), (3, .ptr (some b1) 0 0 4), (6, .ptr (some b2) 0 0 4), (7, .ptr (some b3) 0 0 4)] [(some b3, ⟨4, [.agg [int kd, int nm, str (if kd = 4 ∧ t = old then name else t), .val (.slice none 0 0)]]⟩), (some b2, ⟨4, [zero4]⟩), (some b1, ⟨4, [Tr.av (.mk kd nm t ks)]⟩)] ?_ ?_
  · skip
    refine AWP.seq ?_
    refine AWP.region ?_
    refine Y (Yields.fieldAddr_ptr fo33_0 rfl) rfl ?_
    refine Y (Yields.load_ptr_field (j := 2) kd3 rfl rfl rfl rfl rfl rfl rfl) rfl ?_
    refine Y (bn rfl rfl BinR.eql rfl) rfl ?_
    refine Y (mv rfl) rfl ?_
    refine AOps.split 15 rfl (fun c1 => ?_) (fun c1 => ?_)
    · replace c1 := eq_of_beq c1
      refine AOps.on rfl rfl ?_
      refine Y (Yields.fieldAddr_ptr fo33_2 rfl) rfl ?_
      refine AOps.on rfl rfl ?_
      refine Y (Yields.load_ptr_field (j := 2) kd9 rfl rfl rfl rfl rfl rfl rfl) rfl ?_
      refine AOps.on rfl rfl ?_
      refine Y (mv rfl) rfl ?_
      refine AOps.on rfl rfl ?_
      refine Y (bn rfl rfl BinR.seql rfl) rfl ?_
      refine Y (Yields.pick_true rfl rfl) rfl ?_
      refine AOps.nil ?_
      refine AWP.condT rfl (fun c2 => ?_) (fun c2 => ?_)
      · replace c2 := of_decide_eq_true c2
        refine AWP.region ?_
        refine Y (mv rfl) rfl ?_
        refine Y (Yields.fieldAddr_ptr fo33_2 rfl) rfl ?_
        refine AOps.storeField (j := 0) kd9 rfl rfl rfl rfl rfl rfl rfl ?_
        refine AOps.nil ?_
        refine Leads.trans (Leads.rowEq 0 rfl (congrArg (fun t => [AV.agg [int kd, int nm, str t, .val (.slice none 0 0)]]) (if_pos ⟨c1, c2⟩ : (if kd = 4 ∧ t = old then name else t) = name).symm)) ?_
        exact Leads.keepR (KeepR.cons 0 rfl (KeepR.cons 0 rfl (KeepR.cons 0 rfl KeepR.nil))) ⟨rfl, rfl, rfl, rfl, rfl, trivial⟩
      · replace c2 := of_decide_eq_false c2
        refine AWP.leads (Leads.rowEq 0 rfl (congrArg (fun t => [AV.agg [int kd, int nm, str t, .val (.slice none 0 0)]]) (if_neg (fun q => c2 q.2) : (if kd = 4 ∧ t = old then name else t) = t).symm)) ?_
        refine AWP.skip ?_
        exact Leads.keepR (KeepR.cons 0 rfl (KeepR.cons 0 rfl (KeepR.cons 0 rfl KeepR.nil))) ⟨rfl, rfl, rfl, rfl, rfl, trivial⟩
    · replace c1 := ne_of_beq_false c1
      refine AOps.leads (Leads.rowEq 0 rfl (congrArg (fun t => [AV.agg [int kd, int nm, str t, .val (.slice none 0 0)]]) (if_neg (fun q => c1 q.1) : (if kd = 4 ∧ t = old then name else t) = t).symm)) ?_
      refine AOps.off' rfl rfl rfl rfl ?_
      refine AOps.off' rfl rfl rfl rfl ?_
      refine AOps.off' rfl rfl rfl rfl ?_
      refine AOps.off' rfl rfl rfl rfl ?_
      refine Y (Yields.pick_false rfl rfl) rfl ?_
      refine AOps.nil ?_
      refine AWP.cond rfl (fun h => absurd h (by decide)) (fun _ => ?_)
      refine AWP.skip ?_
      exact Leads.keepR (KeepR.cons 0 rfl (KeepR.cons 0 rfl (KeepR.cons 0 rfl KeepR.nil))) ⟨rfl, rfl, rfl, rfl, rfl, trivial⟩
  · skip
    refine AWP.leads (Leads.rowWk 0 0 rfl rfl (Wk.agg (ps := [_, _, _, .loc none 0 0 0 4]) ⟨Wk.refl _, Wk.refl _, Wk.refl _, Wk.nilLoc (n := 4), trivial⟩)) ?_
    refine AWP.leads (Leads.row0 4) ?_
    refine AWP.seq ?_
    refine AWP.seq ?_
    refine AWP.region ?_
    refine Y (Yields.fieldAddr_ptr fo33_3 rfl) rfl ?_
    refine Y (Yields.load_ptr_field (j := 3) kd31 rfl rfl rfl rfl rfl rfl rfl) rfl ?_
    refine Y (Yields.len_ro sl31 rfl) rfl ?_
    refine Y (mv rfl) rfl ?_
    refine AOps.nil ?_
    refine AWP.block ?_
    refine AWP.loopV (α := Option Nat × Nat) (fun p : Option Nat × Nat => match p with | (B, i) => ⟨[(1, str old), (2, str name), (6, .ptr (some b2) 0 0 4), (7, .ptr (some b3) 0 0 4), (24, .ro 4 (Tr.avs ks) [] false), (25, int (Tr.avs ks).length), (26, int i)], [(some b3, ⟨4, [.agg [int kd, int nm, str (if kd = 4 ∧ t = old then name else t), .loc B 0 i i 4]]⟩), (B, ⟨4, Tr.avXs Tr.nosp (renK old name (ks.take i))⟩), (some b2, ⟨4, [zero4]⟩)]⟩) (fun p : Option Nat × Nat => match p with | (B, i) => i ≤ ks.length) (fun p : Option Nat × Nat => match p with | (B, i) => ks.length - i) ((none, 0)) ?_ ?_ ?_
    · exact Leads.keepR (KeepR.cons 1 rfl (KeepR.cons 0 rfl (KeepR.cons 0 rfl KeepR.nil))) ⟨rfl, rfl, rfl, rfl, rfl, rfl, rfl, trivial⟩
    · show 0 ≤ ks.length
      exact Nat.zero_le _
    · rintro ⟨B, i⟩ hinv
      replace hinv : i ≤ ks.length := hinv
      show AWP _ _ _ _ ⟨[(1, str old), (2, str name), (6, .ptr (some b2) 0 0 4), (7, .ptr (some b3) 0 0 4), (24, .ro 4 (Tr.avs ks) [] false), (25, int (Tr.avs ks).length), (26, int i)], [(some b3, ⟨4, [.agg [int kd, int nm, str (if kd = 4 ∧ t = old then name else t), .loc B 0 i i 4]]⟩), (B, ⟨4, Tr.avXs Tr.nosp (renK old name (ks.take i))⟩), (some b2, ⟨4, [zero4]⟩)]⟩
      refine AWP.seq ?_
      refine AWP.region ?_
      refine Y (bn rfl rfl BinR.lss rfl) rfl ?_
      refine AOps.nil ?_
      refine AWP.seq ?_
      refine AWP.condT rfl (fun g => ?_) (fun g => ?_)
      · replace g := of_decide_eq_true g
        obtain ⟨k, hk, hd⟩ := drop_at (l := ks) (i := i) (by omega)
        have hA : (Tr.avXs Tr.nosp (renK old name (ks.take i))).length = i := by rw [Tr.avXs_length, renK_length, List.length_take]; omega
        obtain ⟨ckd, cnm, ct, cks⟩ := k
        refine AWP.skip ?_
        refine AWP.seq ?_
        refine AWP.block ?_
        refine AWP.seq ?_
        refine AWP.region ?_
        refine Y (Yields.idx_roN sl31 rfl rfl rfl rfl (by omega)) rfl ?_
        refine Y (Yields.load_rop_aggV kd33 rfl (Tr.avs_at hk) rfl) rfl ?_
        refine AOps.alloc rfl z33 rfl rfl fun b1 => ?_
        refine AOps.store (j := 0) kd33 rfl rfl rfl rfl rfl rfl ?_
        refine AOps.nil ?_
        refine AWP.prune (tm' := [(1, _), (2, _), (6, _), (7, _), (24, _), (25, _), (26, _), (27, _), (9, _)]) ⟨rfl, rfl, rfl, rfl, rfl, rfl, rfl, rfl, rfl, trivial⟩ ?_
        refine AWP.drawnS [(5, 6)] 7 mixed rfl rfl rfl rfl rfl ?_
        refine DU (tm' := [(7, _)]) ⟨rfl, trivial⟩ rfl (DStep.yields (Yields.fieldAddr_ptr fo33_3 rfl)) rfl ?_
        refine DU (tm' := [(30, _)]) ⟨rfl, trivial⟩ rfl (DStep.yields (Yields.load_ptr_field (j := 1) kd31 rfl rfl rfl rfl rfl rfl rfl)) rfl ?_
        refine DU (tm' := [(9, _)]) ⟨rfl, trivial⟩ rfl (DStep.yields (Yields.load_ptr_agg (j := 0) kd33 rfl rfl rfl rfl)) rfl ?_
        refine DU (tm' := [(1, _)]) ⟨rfl, trivial⟩ rfl (DStep.yields (mv rfl)) rfl ?_
        refine DU (tm' := [(2, _)]) ⟨rfl, trivial⟩ rfl (DStep.yields (mv rfl)) rfl ?_
        refine DUs (tm' := [(32, _), (33, _), (34, _)]) ⟨rfl, rfl, rfl, trivial⟩ rfl rfl (DStepU.callF (AH.toOwn (by simp [plainL, plainV, Tr.plain_av]) (ih _ (List.mem_of_getElem? hk) (Tr.bnds_get hk3 hk)) (fun r hp' h => ownT.close h)) rfl (WkL.refl _)) rfl ?_
        refine DUs (tm' := []) trivial rfl rfl (DStepU.buildOne sl31 z33 (Tr.avX_cell _ _) (Tr.avX_width _ _) rfl) rfl ?_
        refine DOpsU.nil ?_
        intro Bs
        refine AOps.unseal 0 0 rfl rfl (openT_to _ _ _ _) fun Bk => ?_
        refine AOps.appendE (j := 4) sl31 z33 rfl rfl rfl rfl rfl hA rfl (src_row (j2 := 1) rfl rfl rfl) (show i + 1 = i + 1 from rfl) rfl (by omega) (by omega) fun Bn => ?_
        refine AOps.leads (Leads.seal 3 i rfl (get_one hA) (sealT _ _ _ _ _)) ?_
        refine AOps.leads (Leads.rowEq 3 rfl (show (Tr.avXs Tr.nosp (renK old name (ks.take i)) ++ [openT Bk (renT old name (.mk ckd cnm ct cks))]).set i (Tr.avX Tr.nosp (renT old name (.mk ckd cnm ct cks))) = Tr.avXs Tr.nosp (renK old name (ks.take (i + 1))) by rw [app_one hA, avXs_one, ← renK_take old name hk])) ?_
        refine Y (Yields.fieldAddr_ptr fo33_3 rfl) rfl ?_
        refine AOps.storeField (j := 2) kd31 rfl rfl rfl rfl rfl rfl rfl ?_
        refine AOps.nil ?_
        refine AWP.region ?_
        refine Y (bn rfl rfl (BinR.addI (by omega) (by omega)) rfl) rfl ?_
        refine Y (mv rfl) rfl ?_
        refine AOps.nil ?_
        refine ⟨(Bn, i + 1), ?_, ?_, ?_⟩
        · show ks.length - (i + 1) < ks.length - i
          omega
        · show (i + 1) ≤ ks.length
          omega
        · exact Leads.keepR (KeepR.cons 2 rfl (KeepR.cons 2 rfl (KeepR.cons 2 rfl KeepR.nil))) ⟨rfl, rfl, rfl, rfl, rfl, rfl, rfl, trivial⟩
      · replace g := of_decide_eq_false g
        have hi' : i = ks.length := by omega
        subst hi'
        refine AWP.exit ?_
        refine AWP.seq ?_
        refine AWP.region ?_
        refine Y (Yields.load_ptr_agg (j := 0) kd33 rfl rfl rfl rfl) rfl ?_
        refine AOps.store (j := 2) kd33 rfl rfl rfl rfl rfl rfl ?_
        refine AOps.nil ?_
        refine AWP.ret ⟨.inl rfl, ?_⟩
        exact RetH.of (rs := [.cell 6 33]) (vs := [_]) rfl ⟨resOne.cell (j := 2) rfl rfl kd33 rfl rfl rfl, trivial⟩ (KeepR.cons 1 rfl KeepR.nil) (⟨B, by rw [renT, openT, renK_length]; rfl, by rw [renT, Tr.kids, List.take_length]⟩)
theorem srenamed_AH (old name : ByteArray) (k : Tr) : k.bnd 1000000 → FnH 70 [] [k.av, str old, str name] (ownT (renT old name k)) := by
  induction k using Tr.ind
  rename_i kd nm t ks ih
  intro hk
  simp only [Tr.bnd] at hk
  obtain ⟨hk1, hk2, hk3⟩ := hk
  have hlen := Tr.avs_length ks
  refine AH.intro Try.func70 nm70 rfl rfl rfl fun w0 ok0 own0 => ?_
  refine AWP.seq ?_
  refine AWP.region ?_
  refine AOps.box rfl rfl rfl rfl fun b1 => ?_
  refine AOps.alloc rfl z33 rfl rfl fun b2 => ?_
  refine AOps.nil ?_
  refine AWP.seq ?_
  refine AWP.region ?_
  refine Y (Yields.load_ptr_agg (j := 1) kd33 rfl rfl rfl rfl) rfl ?_
  refine AOps.alloc rfl z33 rfl rfl fun b3 => ?_
  refine AOps.store (j := 0) kd33 rfl rfl rfl rfl rfl rfl ?_
  refine AOps.nil ?_
  refine AWP.seq ?_
  refine AWP.region ?_
  refine Y (Yields.fieldAddr_ptr fo33_3 rfl) rfl ?_
  refine AOps.storeField (j := 0) kd31 rfl rfl rfl rfl rfl rfl rfl ?_
  refine AOps.nil ?_
  refine AWP.midT [(1, str old), (2, str name), (3, .ptr (some b1) 0 0 4), (6, .ptr (some b2) 0 0 4), (7, .ptr (some b3) 0 0 4)] [(some b3, ⟨4, [.agg [int kd, int nm, str (if kd = 4 ∧ t = old then name else t), .val (.slice none 0 0)]]⟩), (some b2, ⟨4, [zero4]⟩), (some b1, ⟨4, [Tr.av (.mk kd nm t ks)]⟩)] ?_ ?_
  · skip
    refine AWP.seq ?_
    refine AWP.region ?_
    refine Y (Yields.fieldAddr_ptr fo33_0 rfl) rfl ?_
    refine Y (Yields.load_ptr_field (j := 2) kd3 rfl rfl rfl rfl rfl rfl rfl) rfl ?_
    refine Y (bn rfl rfl BinR.eql rfl) rfl ?_
    refine Y (mv rfl) rfl ?_
    refine AOps.split 14 rfl (fun c1 => ?_) (fun c1 => ?_)
    · replace c1 := eq_of_beq c1
      refine AOps.on rfl rfl ?_
      refine Y (Yields.fieldAddr_ptr fo33_2 rfl) rfl ?_
      refine AOps.on rfl rfl ?_
      refine Y (Yields.load_ptr_field (j := 2) kd9 rfl rfl rfl rfl rfl rfl rfl) rfl ?_
      refine AOps.on rfl rfl ?_
      refine Y (mv rfl) rfl ?_
      refine AOps.on rfl rfl ?_
      refine Y (bn rfl rfl BinR.seql rfl) rfl ?_
      refine Y (Yields.pick_true rfl rfl) rfl ?_
      refine AOps.nil ?_
      refine AWP.condT rfl (fun c2 => ?_) (fun c2 => ?_)
      · replace c2 := of_decide_eq_true c2
        refine AWP.region ?_
        refine Y (mv rfl) rfl ?_
        refine Y (Yields.fieldAddr_ptr fo33_2 rfl) rfl ?_
        refine AOps.storeField (j := 0) kd9 rfl rfl rfl rfl rfl rfl rfl ?_
        refine AOps.nil ?_
        refine Leads.trans (Leads.rowEq 0 rfl (congrArg (fun t => [AV.agg [int kd, int nm, str t, .val (.slice none 0 0)]]) (if_pos ⟨c1, c2⟩ : (if kd = 4 ∧ t = old then name else t) = name).symm)) ?_
        exact Leads.keepR (KeepR.cons 0 rfl (KeepR.cons 0 rfl (KeepR.cons 0 rfl KeepR.nil))) ⟨rfl, rfl, rfl, rfl, rfl, trivial⟩
      · replace c2 := of_decide_eq_false c2
        refine AWP.leads (Leads.rowEq 0 rfl (congrArg (fun t => [AV.agg [int kd, int nm, str t, .val (.slice none 0 0)]]) (if_neg (fun q => c2 q.2) : (if kd = 4 ∧ t = old then name else t) = t).symm)) ?_
        refine AWP.skip ?_
        exact Leads.keepR (KeepR.cons 0 rfl (KeepR.cons 0 rfl (KeepR.cons 0 rfl KeepR.nil))) ⟨rfl, rfl, rfl, rfl, rfl, trivial⟩
    · replace c1 := ne_of_beq_false c1
      refine AOps.leads (Leads.rowEq 0 rfl (congrArg (fun t => [AV.agg [int kd, int nm, str t, .val (.slice none 0 0)]]) (if_neg (fun q => c1 q.1) : (if kd = 4 ∧ t = old then name else t) = t).symm)) ?_
      refine AOps.off' rfl rfl rfl rfl ?_
      refine AOps.off' rfl rfl rfl rfl ?_
      refine AOps.off' rfl rfl rfl rfl ?_
      refine AOps.off' rfl rfl rfl rfl ?_
      refine Y (Yields.pick_false rfl rfl) rfl ?_
      refine AOps.nil ?_
      refine AWP.cond rfl (fun h => absurd h (by decide)) (fun _ => ?_)
      refine AWP.skip ?_
      exact Leads.keepR (KeepR.cons 0 rfl (KeepR.cons 0 rfl (KeepR.cons 0 rfl KeepR.nil))) ⟨rfl, rfl, rfl, rfl, rfl, trivial⟩
  · skip
    refine AWP.leads (Leads.rowWk 0 0 rfl rfl (Wk.agg (ps := [_, _, _, .loc none 0 0 0 4]) ⟨Wk.refl _, Wk.refl _, Wk.refl _, Wk.nilLoc (n := 4), trivial⟩)) ?_
    refine AWP.leads (Leads.row0 4) ?_
    refine AWP.seq ?_
    refine AWP.seq ?_
    refine AWP.region ?_
    refine Y (ass rfl) rfl ?_
    refine AOps.nil ?_
    refine AWP.block ?_
    refine AWP.loopV (α := Option Nat × Nat) (fun p : Option Nat × Nat => match p with | (B, i) => ⟨[(1, str old), (2, str name), (3, .ptr (some b1) 0 0 4), (6, .ptr (some b2) 0 0 4), (7, .ptr (some b3) 0 0 4), (8, int i)], [(some b3, ⟨4, [.agg [int kd, int nm, str (if kd = 4 ∧ t = old then name else t), .loc B 0 i i 4]]⟩), (B, ⟨4, Tr.avXs Tr.nosp (renK old name (ks.take i))⟩), (some b2, ⟨4, [zero4]⟩), (some b1, ⟨4, [Tr.av (.mk kd nm t ks)]⟩)]⟩) (fun p : Option Nat × Nat => match p with | (B, i) => i ≤ ks.length) (fun p : Option Nat × Nat => match p with | (B, i) => ks.length - i) ((none, 0)) ?_ ?_ ?_
    · exact Leads.keepR (KeepR.cons 1 rfl (KeepR.cons 0 rfl (KeepR.cons 0 rfl (KeepR.cons 0 rfl KeepR.nil)))) ⟨rfl, rfl, rfl, rfl, rfl, rfl, trivial⟩
    · show 0 ≤ ks.length
      exact Nat.zero_le _
    · rintro ⟨B, i⟩ hinv
      replace hinv : i ≤ ks.length := hinv
      show AWP _ _ _ _ ⟨[(1, str old), (2, str name), (3, .ptr (some b1) 0 0 4), (6, .ptr (some b2) 0 0 4), (7, .ptr (some b3) 0 0 4), (8, int i)], [(some b3, ⟨4, [.agg [int kd, int nm, str (if kd = 4 ∧ t = old then name else t), .loc B 0 i i 4]]⟩), (B, ⟨4, Tr.avXs Tr.nosp (renK old name (ks.take i))⟩), (some b2, ⟨4, [zero4]⟩), (some b1, ⟨4, [Tr.av (.mk kd nm t ks)]⟩)]⟩
      refine AWP.seq ?_
      refine AWP.seq ?_
      refine AWP.region ?_
      refine Y (mv rfl) rfl ?_
      refine Y (Yields.fieldAddr_ptr fo33_3 rfl) rfl ?_
      refine Y (Yields.load_ptr_field (j := 3) kd31 rfl rfl rfl rfl rfl rfl rfl) rfl ?_
      refine Y (Yields.len_ro sl31 rfl) rfl ?_
      refine Y (bn rfl rfl BinR.lss rfl) rfl ?_
      refine AOps.nil ?_
      refine AWP.condT rfl (fun g => ?_) (fun g => ?_)
      · replace g := of_decide_eq_true g
        obtain ⟨k, hk, hd⟩ := drop_at (l := ks) (i := i) (by omega)
        have hA : (Tr.avXs Tr.nosp (renK old name (ks.take i))).length = i := by rw [Tr.avXs_length, renK_length, List.length_take]; omega
        obtain ⟨ckd, cnm, ct, cks⟩ := k
        refine AWP.skip ?_
        refine AWP.seq ?_
        refine AWP.block ?_
        refine AWP.prune (tm' := [(1, _), (2, _), (3, _), (6, _), (7, _), (8, _), (26, _)]) ⟨rfl, rfl, rfl, rfl, rfl, rfl, rfl, trivial⟩ ?_
        refine AWP.drawnS [(9, 10)] 11 mixed rfl rfl rfl rfl rfl ?_
        refine DU (tm' := [(7, _)]) ⟨rfl, trivial⟩ rfl (DStep.yields (Yields.fieldAddr_ptr fo33_3 rfl)) rfl ?_
        refine DU (tm' := [(29, _)]) ⟨rfl, trivial⟩ rfl (DStep.yields (Yields.load_ptr_field (j := 0) kd31 rfl rfl rfl rfl rfl rfl rfl)) rfl ?_
        refine DU (tm' := [(3, _)]) ⟨rfl, trivial⟩ rfl (DStep.yields (Yields.fieldAddr_ptr fo33_3 rfl)) rfl ?_
        refine DU (tm' := [(31, _)]) ⟨rfl, trivial⟩ rfl (DStep.yields (Yields.load_ptr_field (j := 3) kd31 rfl rfl rfl rfl rfl rfl rfl)) rfl ?_
        refine DU (tm' := [(8, _)]) ⟨rfl, trivial⟩ rfl (DStep.yields (mv rfl)) rfl ?_
        refine DU (tm' := [(32, _), (33, _)]) ⟨rfl, rfl, trivial⟩ rfl (DStep.yields (Yields.idx_roN sl31 rfl rfl rfl rfl (by omega))) rfl ?_
        refine DU (tm' := [(34, _)]) ⟨rfl, trivial⟩ rfl (DStep.yields (Yields.load_rop_aggV kd33 rfl (Tr.avs_at hk) rfl)) rfl ?_
        refine DU (tm' := [(1, _)]) ⟨rfl, trivial⟩ rfl (DStep.yields (mv rfl)) rfl ?_
        refine DU (tm' := [(2, _)]) ⟨rfl, trivial⟩ rfl (DStep.yields (mv rfl)) rfl ?_
        refine DUs (tm' := [(35, _), (36, _), (37, _)]) ⟨rfl, rfl, rfl, trivial⟩ rfl rfl (DStepU.callF (AH.toOwn (by simp [plainL, plainV, Tr.plain_av]) (ih _ (List.mem_of_getElem? hk) (Tr.bnds_get hk3 hk)) (fun r hp' h => ownT.close h)) rfl (WkL.refl _)) rfl ?_
        refine DUs (tm' := []) trivial rfl rfl (DStepU.buildOne sl31 z33 (Tr.avX_cell _ _) (Tr.avX_width _ _) rfl) rfl ?_
        refine DOpsU.nil ?_
        intro Bs
        refine AOps.unseal 0 0 rfl rfl (openT_to _ _ _ _) fun Bk => ?_
        refine AOps.appendE (j := 3) sl31 z33 rfl rfl rfl rfl rfl hA rfl (src_row (j2 := 1) rfl rfl rfl) (show i + 1 = i + 1 from rfl) rfl (by omega) (by omega) fun Bn => ?_
        refine AOps.leads (Leads.seal 2 i rfl (get_one hA) (sealT _ _ _ _ _)) ?_
        refine AOps.leads (Leads.rowEq 2 rfl (show (Tr.avXs Tr.nosp (renK old name (ks.take i)) ++ [openT Bk (renT old name (.mk ckd cnm ct cks))]).set i (Tr.avX Tr.nosp (renT old name (.mk ckd cnm ct cks))) = Tr.avXs Tr.nosp (renK old name (ks.take (i + 1))) by rw [app_one hA, avXs_one, ← renK_take old name hk])) ?_
        refine Y (Yields.fieldAddr_ptr fo33_3 rfl) rfl ?_
        refine AOps.storeField (j := 1) kd31 rfl rfl rfl rfl rfl rfl rfl ?_
        refine AOps.nil ?_
        refine AWP.region ?_
        refine Y (mv rfl) rfl ?_
        refine Y (bn rfl rfl (BinR.addI (by omega) (by omega)) rfl) rfl ?_
        refine Y (ass rfl) rfl ?_
        refine AOps.nil ?_
        refine ⟨(Bn, i + 1), ?_, ?_, ?_⟩
        · show ks.length - (i + 1) < ks.length - i
          omega
        · show (i + 1) ≤ ks.length
          omega
        · exact Leads.keepR (KeepR.cons 1 rfl (KeepR.cons 1 rfl (KeepR.cons 1 rfl (KeepR.cons 1 rfl KeepR.nil)))) ⟨rfl, rfl, rfl, rfl, rfl, rfl, trivial⟩
      · replace g := of_decide_eq_false g
        have hi' : i = ks.length := by omega
        subst hi'
        refine AWP.exit ?_
        refine AWP.seq ?_
        refine AWP.region ?_
        refine Y (Yields.load_ptr_agg (j := 0) kd33 rfl rfl rfl rfl) rfl ?_
        refine AOps.store (j := 2) kd33 rfl rfl rfl rfl rfl rfl ?_
        refine AOps.nil ?_
        refine AWP.ret ⟨.inl rfl, ?_⟩
        exact RetH.of (rs := [.cell 6 33]) (vs := [_]) rfl ⟨resOne.cell (j := 2) rfl rfl kd33 rfl rfl rfl, trivial⟩ (KeepR.cons 1 rfl KeepR.nil) (⟨B, by rw [renT, openT, renK_length]; rfl, by rw [renT, Tr.kids, List.take_length]⟩)

/-- A value without anything. -/
def zeroTr : Tr := .mk 0 0 ⟨#[]⟩ []
/-- What ValueRenamed returns. -/
def renE (old name : ByteArray) (k : Tr) : Tr := if validV k 6 = true ∧ isNameL name.data.toList = true then renT old name k else zeroTr
def renB (name : ByteArray) (k : Tr) : Bool := validV k 6 && isNameL name.data.toList
/-- A tree of one's own and a truth. -/
def ownTB (k : Tr) (b : Bool) : AV → Hp → Prop := fun r hp' => ∃ B : Option Nat, r = .tup [openT B k, bool b] ∧ hp' = [(B, ⟨4, Tr.avXs Tr.nosp k.kids⟩)]
theorem ownTB.fz {k : Tr} {b : Bool} {r : AV} {hp' : Hp} (h : ownTB k b r hp') : Fz hp' r (.tup [k.av, bool b]) := by
  obtain ⟨B, rfl, rfl⟩ := h
  exact Fz.tup ⟨(bor_avT (j := 0) k rfl).fz, Fz.refl, trivial⟩
theorem ownTB.free {k : Tr} {b : Bool} {r : AV} {hp' : Hp} (h : ownTB k b r hp') : Free r ∧ ∀ B row, (B, row) ∈ hp' → FreeL row.xs := by
  obtain ⟨B, rfl, rfl⟩ := h
  obtain ⟨h1, h2⟩ := ownT.free (k := k) ⟨B, rfl, rfl⟩
  exact ⟨Free.tup ⟨h1, Free.val, trivial⟩, h2⟩
theorem renE_neg {old name : ByteArray} {k : Tr} (h : ¬ (validV k 6 = true ∧ isNameL name.data.toList = true)) : renE old name k = zeroTr := if_neg h
theorem iValueRenamed_AH (old name : ByteArray) (k : Tr) (hk : k.bnd 1000000) (hn : name.size ≤ 140737488355328) : FnH 38 [] [k.av, str old, str name] (ownTB (renE old name k) (renB name k)) := by
  obtain ⟨kd, nm, t, ks⟩ := k
  refine AH.intro Try.func38 nm38 rfl rfl rfl fun w0 ok0 own0 => ?_
  refine AWP.seq ?_
  refine AWP.region ?_
  refine AOps.box rfl rfl rfl rfl fun b1 => ?_
  refine AOps.alloc rfl z33 rfl rfl fun b2 => ?_
  refine Y (ass rfl) rfl ?_
  refine AOps.nil ?_
  refine AWP.seq ?_
  refine AWP.seq ?_
  refine AWP.region ?_
  refine Y (Yields.load_ptr_agg (j := 1) kd33 rfl rfl rfl rfl) rfl ?_
  refine AOps.callro (iValueOk_AF (.mk kd nm t ks) hk) rfl rfl rfl ?_
  refine Y (Yields.not rfl) rfl ?_
  refine Y (mv rfl) rfl ?_
  refine AOps.split 11 rfl (fun h => ?_) (fun h => ?_)
  · skip
    have h : ¬ validV (.mk kd nm t ks) 6 = true := by simpa using h
    refine AOps.off' rfl rfl rfl rfl ?_
    refine AOps.off' rfl rfl rfl rfl ?_
    refine AOps.off' rfl rfl rfl rfl ?_
    refine Y (Yields.pick_true rfl rfl) rfl ?_
    refine AOps.nil ?_
    refine AWP.cond rfl (fun _ => ?_) (fun h => absurd h (by decide))
    refine AWP.seq ?_
    refine AWP.region ?_
    refine Y (Yields.build pl33 z33 rfl rfl) rfl ?_
    refine AOps.store (j := 0) kd33 rfl rfl rfl rfl rfl rfl ?_
    refine Y (ass rfl) rfl ?_
    refine AOps.nil ?_
    refine AWP.leads (Leads.rowWk 0 0 rfl rfl (Wk.agg (ps := [_, _, _, .loc none 0 0 0 4]) ⟨Wk.refl _, Wk.refl _, Wk.refl _, Wk.nilLoc (n := 4), trivial⟩)) ?_
    refine AWP.leads (Leads.row0 4) ?_
    refine AWP.ret ⟨.inl rfl, ?_⟩
    exact RetH.of (rs := [.cell 6 33, .tmp 7]) (vs := [_, _]) rfl ⟨resOne.cell (j := 1) rfl rfl kd33 rfl rfl rfl, rfl, trivial⟩ (KeepR.cons 0 rfl KeepR.nil) (⟨none, by rw [renE_neg (fun q => h q.1), renB, Bool.eq_false_iff.2 h]; rfl, by rw [renE_neg (fun q => h q.1)]; rfl⟩)
  · skip
    have h : validV (.mk kd nm t ks) 6 = true := by simpa using h
    refine AOps.on rfl rfl ?_
    refine Y (mv rfl) rfl ?_
    refine AOps.on rfl rfl ?_
    refine AOps.callro (nameOk_AF name hn) rfl rfl rfl ?_
    refine AOps.on rfl rfl ?_
    refine Y (Yields.not rfl) rfl ?_
    refine Y (Yields.pick_false rfl rfl) rfl ?_
    refine AOps.nil ?_
    refine AWP.condT rfl (fun h2 => ?_) (fun h2 => ?_)
    · skip
      refine AWP.seq ?_
      refine AWP.region ?_
      have h2 : ¬ isNameL name.data.toList = true := by simpa using h2
      refine Y (Yields.build pl33 z33 rfl rfl) rfl ?_
      refine AOps.store (j := 0) kd33 rfl rfl rfl rfl rfl rfl ?_
      refine Y (ass rfl) rfl ?_
      refine AOps.nil ?_
      refine AWP.leads (Leads.rowWk 0 0 rfl rfl (Wk.agg (ps := [_, _, _, .loc none 0 0 0 4]) ⟨Wk.refl _, Wk.refl _, Wk.refl _, Wk.nilLoc (n := 4), trivial⟩)) ?_
      refine AWP.leads (Leads.row0 4) ?_
      refine AWP.ret ⟨.inl rfl, ?_⟩
      exact RetH.of (rs := [.cell 6 33, .tmp 7]) (vs := [_, _]) rfl ⟨resOne.cell (j := 1) rfl rfl kd33 rfl rfl rfl, rfl, trivial⟩ (KeepR.cons 0 rfl KeepR.nil) (⟨none, by rw [renE_neg (fun q => h2 q.2), renB, Bool.eq_false_iff.2 h2, Bool.and_false]; rfl, by rw [renE_neg (fun q => h2 q.2)]; rfl⟩)
    · skip
      have h2 : isNameL name.data.toList = true := by simpa using h2
      refine AWP.skip ?_
      refine AWP.seq ?_
      refine AWP.region ?_
      refine Y (Yields.load_ptr_agg (j := 1) kd33 rfl rfl rfl rfl) rfl ?_
      refine Y (mv rfl) rfl ?_
      refine Y (mv rfl) rfl ?_
      refine AOps.callH (.inl trivial) (irenamed_AH old name (.mk kd nm t ks) hk) rfl rfl rfl (WkL.refl _) ?_
      rintro _ _ ⟨Bk, rfl, rfl⟩
      refine AOps.store (j := 1) kd33 rfl rfl rfl rfl rfl rfl ?_
      refine Y (ass rfl) rfl ?_
      refine AOps.nil ?_
      refine AWP.ret ⟨.inl rfl, ?_⟩
      exact RetH.of (rs := [.cell 6 33, .tmp 7]) (vs := [_, _]) rfl ⟨resOne.cell (j := 1) rfl rfl kd33 rfl rfl rfl, rfl, trivial⟩ (KeepR.cons 0 rfl KeepR.nil) (⟨Bk, by rw [renE, if_pos ⟨h, h2⟩, renB, h, h2]; rfl, by rw [renE, if_pos ⟨h, h2⟩]⟩)
theorem sValueRenamed_AH (old name : ByteArray) (k : Tr) (hk : k.bnd 1000000) (hn : name.size ≤ 140737488355328) : FnH 37 [] [k.av, str old, str name] (ownTB (renE old name k) (renB name k)) := by
  obtain ⟨kd, nm, t, ks⟩ := k
  refine AH.intro Try.func37 nm37 rfl rfl rfl fun w0 ok0 own0 => ?_
  refine AWP.seq ?_
  refine AWP.region ?_
  refine AOps.box rfl rfl rfl rfl fun b1 => ?_
  refine AOps.alloc rfl z33 rfl rfl fun b2 => ?_
  refine Y (ass rfl) rfl ?_
  refine AOps.nil ?_
  refine AWP.seq ?_
  refine AWP.seq ?_
  refine AWP.region ?_
  refine Y (Yields.load_ptr_agg (j := 1) kd33 rfl rfl rfl rfl) rfl ?_
  refine AOps.callro (sValueOk_AF (.mk kd nm t ks) hk) rfl rfl rfl ?_
  refine Y (Yields.not rfl) rfl ?_
  refine Y (mv rfl) rfl ?_
  refine AOps.split 11 rfl (fun h => ?_) (fun h => ?_)
  · skip
    have h : ¬ validV (.mk kd nm t ks) 6 = true := by simpa using h
    refine AOps.off' rfl rfl rfl rfl ?_
    refine AOps.off' rfl rfl rfl rfl ?_
    refine AOps.off' rfl rfl rfl rfl ?_
    refine Y (Yields.pick_true rfl rfl) rfl ?_
    refine AOps.nil ?_
    refine AWP.cond rfl (fun _ => ?_) (fun h => absurd h (by decide))
    refine AWP.seq ?_
    refine AWP.region ?_
    refine Y (Yields.build pl33 z33 rfl rfl) rfl ?_
    refine AOps.store (j := 0) kd33 rfl rfl rfl rfl rfl rfl ?_
    refine Y (ass rfl) rfl ?_
    refine AOps.nil ?_
    refine AWP.leads (Leads.rowWk 0 0 rfl rfl (Wk.agg (ps := [_, _, _, .loc none 0 0 0 4]) ⟨Wk.refl _, Wk.refl _, Wk.refl _, Wk.nilLoc (n := 4), trivial⟩)) ?_
    refine AWP.leads (Leads.row0 4) ?_
    refine AWP.ret ⟨.inl rfl, ?_⟩
    exact RetH.of (rs := [.cell 6 33, .tmp 7]) (vs := [_, _]) rfl ⟨resOne.cell (j := 1) rfl rfl kd33 rfl rfl rfl, rfl, trivial⟩ (KeepR.cons 0 rfl KeepR.nil) (⟨none, by rw [renE_neg (fun q => h q.1), renB, Bool.eq_false_iff.2 h]; rfl, by rw [renE_neg (fun q => h q.1)]; rfl⟩)
  · skip
    have h : validV (.mk kd nm t ks) 6 = true := by simpa using h
    refine AOps.on rfl rfl ?_
    refine Y (mv rfl) rfl ?_
    refine AOps.on rfl rfl ?_
    refine AOps.callro (isName_AF name hn) rfl rfl rfl ?_
    refine AOps.on rfl rfl ?_
    refine Y (Yields.not rfl) rfl ?_
    refine Y (Yields.pick_false rfl rfl) rfl ?_
    refine AOps.nil ?_
    refine AWP.condT rfl (fun h2 => ?_) (fun h2 => ?_)
    · skip
      refine AWP.seq ?_
      refine AWP.region ?_
      have h2 : ¬ isNameL name.data.toList = true := by simpa using h2
      refine Y (Yields.build pl33 z33 rfl rfl) rfl ?_
      refine AOps.store (j := 0) kd33 rfl rfl rfl rfl rfl rfl ?_
      refine Y (ass rfl) rfl ?_
      refine AOps.nil ?_
      refine AWP.leads (Leads.rowWk 0 0 rfl rfl (Wk.agg (ps := [_, _, _, .loc none 0 0 0 4]) ⟨Wk.refl _, Wk.refl _, Wk.refl _, Wk.nilLoc (n := 4), trivial⟩)) ?_
      refine AWP.leads (Leads.row0 4) ?_
      refine AWP.ret ⟨.inl rfl, ?_⟩
      exact RetH.of (rs := [.cell 6 33, .tmp 7]) (vs := [_, _]) rfl ⟨resOne.cell (j := 1) rfl rfl kd33 rfl rfl rfl, rfl, trivial⟩ (KeepR.cons 0 rfl KeepR.nil) (⟨none, by rw [renE_neg (fun q => h2 q.2), renB, Bool.eq_false_iff.2 h2, Bool.and_false]; rfl, by rw [renE_neg (fun q => h2 q.2)]; rfl⟩)
    · skip
      have h2 : isNameL name.data.toList = true := by simpa using h2
      refine AWP.skip ?_
      refine AWP.seq ?_
      refine AWP.region ?_
      refine Y (Yields.load_ptr_agg (j := 1) kd33 rfl rfl rfl rfl) rfl ?_
      refine Y (mv rfl) rfl ?_
      refine Y (mv rfl) rfl ?_
      refine AOps.callH (.inl trivial) (srenamed_AH old name (.mk kd nm t ks) hk) rfl rfl rfl (WkL.refl _) ?_
      rintro _ _ ⟨Bk, rfl, rfl⟩
      refine AOps.store (j := 1) kd33 rfl rfl rfl rfl rfl rfl ?_
      refine Y (ass rfl) rfl ?_
      refine AOps.nil ?_
      refine AWP.ret ⟨.inl rfl, ?_⟩
      exact RetH.of (rs := [.cell 6 33, .tmp 7]) (vs := [_, _]) rfl ⟨resOne.cell (j := 1) rfl rfl kd33 rfl rfl rfl, rfl, trivial⟩ (KeepR.cons 0 rfl KeepR.nil) (⟨Bk, by rw [renE, if_pos ⟨h, h2⟩, renB, h, h2]; rfl, by rw [renE, if_pos ⟨h, h2⟩]⟩)
theorem sValueRenamed_AF (old name : ByteArray) (k : Tr) (hk : k.bnd 1000000) (hn : name.size ≤ 140737488355328) : Fn 37 [k.av, str old, str name] (.tup [(renE old name k).av, bool (renB name k)]) :=
  AH.toF (by simp [plainL, plainV, Tr.plain_av]) (sValueRenamed_AH old name k hk hn) (fun r hp' h => ownTB.fz h)
theorem iValueRenamed_AF (old name : ByteArray) (k : Tr) (hk : k.bnd 1000000) (hn : name.size ≤ 140737488355328) : Fn 38 [k.av, str old, str name] (.tup [(renE old name k).av, bool (renB name k)]) :=
  AH.toF (by simp [plainL, plainV, Tr.plain_av]) (iValueRenamed_AH old name k hk hn) (fun r hp' h => ownTB.fz h)
theorem szV_less (k : Tr) (left : Int) (hk : k.bnd 9223372036854775807) (h : left < 0) (h2 : -30000000000000000000 ≤ left) (h3 : -9223372036854775808 ≤ left - k.text.size) : Fn 21 [k.av, int left] (int (-1)) := by
  obtain ⟨kd, nm, t, ks⟩ := k
  simp only [Tr.bnd] at hk
  obtain ⟨hk1, hk2, hk3⟩ := hk
  simp only [Tr.text] at h3
  refine AF.intro Try.func21 nm21 rfl rfl rfl rfl fun w0 ok0 => ?_
  refine AWP.seq ?_
  refine AWP.region ?_
  refine AOps.box rfl rfl rfl rfl fun b1 => ?_
  refine Y (ass rfl) rfl ?_
  refine AOps.nil ?_
  refine AWP.seq ?_
  refine AWP.region ?_
  refine Y (mv rfl) rfl ?_
  refine Y (Yields.fieldAddr_ptr fo28_2 rfl) rfl ?_
  refine Y (Yields.load_ptr_field (j := 0) kd9 rfl rfl rfl rfl rfl rfl rfl) rfl ?_
  refine Y (Yields.len_str Try.underlying9 rfl) rfl ?_
  refine Y (bn rfl rfl (BinR.subI (by omega) (by omega)) rfl) rfl ?_
  refine Y (ass rfl) rfl ?_
  refine AOps.nil ?_
  refine AWP.seq ?_
  refine AWP.seq ?_
  refine AWP.region ?_
  refine Y (mv rfl) rfl ?_
  refine Y (bn rfl rfl BinR.lss rfl) rfl ?_
  refine AOps.nil ?_
  refine AWP.condT rfl (fun g => ?_) (fun g => ?_)
  · replace g := of_decide_eq_true g
    refine AWP.seq ?_
    refine AWP.region ?_
    refine Y (ass rfl) rfl ?_
    refine AOps.nil ?_
    refine AWP.ret ⟨.inl rfl, ?_⟩
    exact RetIs.oneV rfl rfl (by (rfl) <;> rfl)
  · replace g := of_decide_eq_false g
    omega
mutual
theorem sizeT_ren (old name : ByteArray) : ∀ k, sizeT (renT old name k) = sizeT k
  | .mk k n t ks => by rw [renT, sizeT, sizeT, sizeTs_ren old name ks]
theorem sizeTs_ren (old name : ByteArray) : ∀ l, sizeTs (renK old name l) = sizeTs l
  | [] => by rw [renK]
  | k :: l => by rw [renK, sizeTs, sizeTs, sizeT_ren old name k, sizeTs_ren old name l]
end
mutual
theorem bnd_ren {N : Nat} (old name : ByteArray) (hn : name.size ≤ N) : ∀ k : Tr, k.bnd N → (renT old name k).bnd N
  | .mk k n t ks, h => by
    rw [renT]
    simp only [Tr.bnd] at h ⊢
    refine ⟨?_, by rw [renK_length]; exact h.2.1, bnds_ren old name hn ks h.2.2⟩
    split
    · exact hn
    · exact h.1
theorem bnds_ren {N : Nat} (old name : ByteArray) (hn : name.size ≤ N) : ∀ l : List Tr, Tr.bnds N l → Tr.bnds N (renK old name l)
  | [], _ => trivial
  | k :: l, h => ⟨bnd_ren old name hn k h.1, bnds_ren old name hn l h.2⟩
end
theorem renE_facts (old name : ByteArray) (k : Tr) (hk : k.bnd 1000000) (hn : name.size ≤ 1000000) : (renE old name k).bnd 1000000 ∧ sizeT (renE old name k) ≤ sizeT k := by
  unfold renE
  split
  · exact ⟨bnd_ren old name hn k hk, by rw [sizeT_ren]; omega⟩
  · refine ⟨by simp [zeroTr, Tr.bnd, Tr.bnds, ByteArray.size], ?_⟩
    have := sizeT_pos k
    rw [zeroTr, sizeT, sizeTs]; omega
theorem exactValueRenamedN (k : Tr) (hb : k.bnd 9223372036854775807) (hkt : k.text.size ≤ 140737488355328) (old : ByteArray) (ho : old.size ≤ 140737488355328) (name : ByteArray) (hn : name.size ≤ 140737488355328) (hneg : (1000000 : Int) - old.size - name.size < 0) : Fn 12 [k.av, str old, str name] (bool true) := by
  obtain ⟨kd, nm, t, ks⟩ := k
  refine AF.intro Try.func12 nm12 rfl rfl rfl rfl fun w0 ok0 => ?_
  refine AWP.seq ?_
  refine AWP.region ?_
  refine AOps.box rfl rfl rfl rfl fun b1 => ?_
  refine Y (ass rfl) rfl ?_
  refine AOps.nil ?_
  refine AWP.seq ?_
  refine AWP.region ?_
  refine Y (mv rfl) rfl ?_
  refine Y (Yields.len_str Try.underlying9 rfl) rfl ?_
  refine Y (bn rfl rfl (BinR.subI (by omega) (by omega)) rfl) rfl ?_
  refine Y (mv rfl) rfl ?_
  refine Y (Yields.len_str Try.underlying9 rfl) rfl ?_
  refine Y (bn rfl rfl (BinR.subI (by omega) (by omega)) rfl) rfl ?_
  refine Y (ass rfl) rfl ?_
  refine AOps.nil ?_
  refine AWP.seq ?_
  refine AWP.region ?_
  refine Y (Yields.load_ptr_agg (j := 0) kd28 rfl rfl rfl rfl) rfl ?_
  refine Y (mv rfl) rfl ?_
  refine AOps.callro (szV_less (.mk kd nm t ks) (1000000 - old.size - name.size) hb hneg (by omega) (by omega)) rfl rfl rfl ?_
  refine Y (ass rfl) rfl ?_
  refine AOps.nil ?_
  refine AWP.seq ?_
  refine AWP.seq ?_
  refine AWP.region ?_
  refine Y (mv rfl) rfl ?_
  refine Y (bn rfl rfl BinR.lss rfl) rfl ?_
  refine AOps.nil ?_
  refine AWP.condT rfl (fun h => ?_) (fun h => ?_)
  · replace h := of_decide_eq_true h
    refine AWP.seq ?_
    refine AWP.region ?_
    refine Y (ass rfl) rfl ?_
    refine AOps.nil ?_
    refine AWP.ret ⟨.inl rfl, ?_⟩
    exact RetIs.oneV rfl rfl (by (rfl) <;> rfl)
  · replace h := of_decide_eq_false h
    omega
theorem exactValueRenamed (k : Tr) (hb : k.bnd 9223372036854775807) (hkt : k.text.size ≤ 140737488355328) (old : ByteArray) (ho : old.size ≤ 140737488355328) (name : ByteArray) (hn : name.size ≤ 140737488355328) : Fn 12 [k.av, str old, str name] (bool true) := by
  obtain ⟨kd, nm, t, ks⟩ := k
  by_cases hneg : (1000000 : Int) - old.size - name.size < 0
  · refine exactValueRenamedN _ hb hkt old ho name hn hneg
  refine AF.intro Try.func12 nm12 rfl rfl rfl rfl fun w0 ok0 => ?_
  refine AWP.seq ?_
  refine AWP.region ?_
  refine AOps.box rfl rfl rfl rfl fun b1 => ?_
  refine Y (ass rfl) rfl ?_
  refine AOps.nil ?_
  refine AWP.seq ?_
  refine AWP.region ?_
  refine Y (mv rfl) rfl ?_
  refine Y (Yields.len_str Try.underlying9 rfl) rfl ?_
  refine Y (bn rfl rfl (BinR.subI (by omega) (by omega)) rfl) rfl ?_
  refine Y (mv rfl) rfl ?_
  refine Y (Yields.len_str Try.underlying9 rfl) rfl ?_
  refine Y (bn rfl rfl (BinR.subI (by omega) (by omega)) rfl) rfl ?_
  refine Y (ass rfl) rfl ?_
  refine AOps.nil ?_
  refine AWP.seq ?_
  refine AWP.region ?_
  refine Y (Yields.load_ptr_agg (j := 0) kd28 rfl rfl rfl rfl) rfl ?_
  refine Y (mv rfl) rfl ?_
  refine AOps.callro (szV_AFValue (.mk kd nm t ks) (1000000 - old.size - name.size) hb (by omega) (by omega)) rfl rfl rfl ?_
  refine Y (ass rfl) rfl ?_
  refine AOps.nil ?_
  refine AWP.seq ?_
  refine AWP.seq ?_
  refine AWP.region ?_
  refine Y (mv rfl) rfl ?_
  refine Y (bn rfl rfl BinR.lss rfl) rfl ?_
  refine AOps.nil ?_
  refine AWP.condT rfl (fun h => ?_) (fun h => ?_)
  · replace h := of_decide_eq_true h
    refine AWP.seq ?_
    refine AWP.region ?_
    refine Y (ass rfl) rfl ?_
    refine AOps.nil ?_
    refine AWP.ret ⟨.inl rfl, ?_⟩
    exact RetIs.oneV rfl rfl (by (rfl) <;> rfl)
  · replace h := of_decide_eq_false h
    have hk := szV_bnd _ (1000000 - old.size - name.size) (by omega) (by omega) (by omega : 0 ≤ szV (.mk kd nm t ks) (1000000 - old.size - name.size))
    have hz := sizeT_sz (.mk kd nm t ks) (1000000 - old.size - name.size) (by omega) (by omega)
    have hz1 := hz
    rw [sizeT] at hz1
    have hE := renE_facts old name (.mk kd nm t ks) hk (by omega)
    have sF := sValueRenamed_AF old name (.mk kd nm t ks) hk (by omega)
    have iH := iValueRenamed_AH old name (.mk kd nm t ks) hk (by omega)
    have iF := iValueRenamed_AF old name (.mk kd nm t ks) hk (by omega)
    generalize renE old name (.mk kd nm t ks) = gk at hE sF iH iF
    generalize renB name (.mk kd nm t ks) = gb at sF iH iF
    obtain ⟨gd, gn, gt, gks⟩ := gk
    obtain ⟨hE1, hE2⟩ := hE
    rw [sizeT] at hE2
    refine AWP.skip ?_
    refine AWP.seq ?_
    refine AWP.region ?_
    refine Y (Yields.load_ptr_agg (j := 0) kd28 rfl rfl rfl rfl) rfl ?_
    refine AOps.callro (to_AFValue false (.mk kd nm t ks) hk) rfl rfl rfl ?_
    refine Y (mv rfl) rfl ?_
    refine Y (mv rfl) rfl ?_
    refine AOps.callw (sF) rfl rfl ⟨Tr.wk_avR _ _, Wk.refl _, Wk.refl _, trivial⟩ rfl ?_
    refine Y (mv rfl) rfl ?_
    refine Y (Yields.extract rfl rfl) rfl ?_
    refine Y (Yields.extract rfl rfl) rfl ?_
    refine AOps.alloc rfl z33 rfl rfl fun b2 => ?_
    refine AOps.store (j := 0) kd33 rfl rfl rfl rfl rfl rfl ?_
    refine Y (ass rfl) rfl ?_
    refine AOps.nil ?_
    refine AWP.seq ?_
    refine AWP.region ?_
    refine Y (Yields.load_ptr_agg (j := 1) kd28 rfl rfl rfl rfl) rfl ?_
    refine AOps.callH (.inr rfl) (to_XValue false (.mk kd nm t ks) hk) rfl rfl rfl (WkL.refl _) ?_
    rintro _ _ ⟨Bx, rfl, rfl⟩
    refine AOps.alloc rfl z33 rfl rfl fun b3 => ?_
    refine AOps.store (j := 0) kd33 rfl rfl rfl rfl rfl rfl ?_
    refine AOps.nil ?_
    refine AWP.seq ?_
    refine AWP.region ?_
    refine Y (Yields.load_ptr_agg (j := 0) kd33 rfl rfl rfl rfl) rfl ?_
    refine Y (mv rfl) rfl ?_
    refine Y (mv rfl) rfl ?_
    refine AOps.callHb (.inr rfl) (iH) rfl rfl rfl ⟨bor_av _ kd nm t ks (Tr.view_avs' false ks) (j := 1) rfl, Bor.refl rfl, Bor.refl rfl, trivial⟩ (fun r hp' h => ownTB.free h) ?_
    rintro _ _ ⟨Bg, rfl, rfl⟩
    refine Y (mv rfl) rfl ?_
    refine Y (Yields.extract rfl rfl) rfl ?_
    refine Y (Yields.extract rfl rfl) rfl ?_
    refine AOps.alloc rfl z33 rfl rfl fun b4 => ?_
    refine AOps.store (j := 0) kd33 rfl rfl rfl rfl rfl rfl ?_
    refine Y (ass rfl) rfl ?_
    refine AOps.nil ?_
    refine AWP.seq ?_
    refine AWP.seq ?_
    refine AWP.region ?_
    refine Y (Yields.load_ptr_agg (j := 0) kd33 rfl rfl rfl rfl) rfl ?_
    refine Y (Yields.load_ptr_agg (j := 4) kd33 rfl rfl rfl rfl) rfl ?_
    refine AOps.call (gq_XValue (.mk gd gn gt gks) hE1) rfl rfl ⟨bor_avT (.mk gd gn gt gks) (j := 1) rfl, Bor.refl rfl, trivial⟩ rfl Free.val ?_
    refine Y (Yields.not rfl) rfl ?_
    refine Y (mv rfl) rfl ?_
    refine AOps.split 50 rfl (fun h2 => ?_) (fun h2 => ?_)
    · skip
      simp at h2
    · skip
      refine AOps.on rfl rfl ?_
      refine Y (mv rfl) rfl ?_
      refine AOps.on rfl rfl ?_
      refine Y (mv rfl) rfl ?_
      refine AOps.on rfl rfl ?_
      refine Y (bn rfl rfl (BinR.bneq Try.underlying4) rfl) rfl ?_
      refine Y (Yields.pick_false rfl rfl) rfl ?_
      refine AOps.nil ?_
      refine AWP.condT rfl (fun h2b => ?_) (fun h2b => ?_)
      · skip
        simp at h2b
      · skip
        refine AWP.skip ?_
        refine AWP.seq ?_
        refine AWP.seq ?_
        refine AWP.prune (tm' := [(0, _), (1, _), (2, _), (3, _), (6, _), (7, _), (28, _), (8, _), (9, _), (10, _), (11, _), (12, _), (54, _)]) ⟨rfl, rfl, rfl, rfl, rfl, rfl, rfl, rfl, rfl, rfl, rfl, rfl, rfl, trivial⟩ ?_
        refine AWP.drawn mixed rfl rfl ?_
        refine D (tm' := [(10, _)]) ⟨rfl, trivial⟩ (DStep.yields (Yields.load_ptr_agg (j := 2) kd33 rfl rfl rfl rfl)) rfl ?_
        refine D (tm' := [(3, _)]) ⟨rfl, trivial⟩ (DStep.yields (Yields.load_ptr_agg (j := 5) kd28 rfl rfl rfl rfl)) rfl ?_
        refine D (tm' := [(56, _)]) ⟨rfl, trivial⟩ (DStep.callro (to_AFValue false (.mk kd nm t ks) hk) rfl rfl) rfl ?_
        refine D (tm' := [(55, _), (57, _)]) ⟨rfl, rfl, trivial⟩ (DStep.call (intact_AFValue (.mk kd nm t ks) hk) rfl ⟨bor_avR false kd nm t ks (j := 3) rfl, Bor.refl (Tr.plain_avR _ _), trivial⟩ rfl Free.val) rfl ?_
        refine D (tm' := [(58, _)]) ⟨rfl, trivial⟩ (DStep.yields (Yields.not rfl)) rfl ?_
        refine DOps.nil ?_
        refine AWP.condT rfl (fun h3 => ?_) (fun h3 => ?_)
        · skip
          simp at h3
        · skip
          refine AWP.skip ?_
          refine AWP.seq ?_
          refine AWP.region ?_
          refine Y (ass rfl) rfl ?_
          refine AOps.nil ?_
          refine AWP.seq ?_
          refine AWP.region ?_
          refine Y (Yields.load_ptr_agg (j := 2) kd33 rfl rfl rfl rfl) rfl ?_
          refine Y (mv rfl) rfl ?_
          refine AOps.leads (Leads.pull 3 rfl) ?_
          refine AOps.callH (.inr rfl) (mark_XValue (Tr.spare false) kd nm t ks 101 Bx (by omega) hk) rfl rfl rfl (WkL.refl _) ?_
          rintro _ _ ⟨rfl, rfl⟩
          refine Y (ass rfl) rfl ?_
          refine AOps.nil ?_
          refine AWP.seq ?_
          refine AWP.seq ?_
          refine AWP.region ?_
          refine Y (mv rfl) rfl ?_
          refine Y (bn rfl rfl BinR.lss rfl) rfl ?_
          refine Y (mv rfl) rfl ?_
          refine AOps.split 65 rfl (fun h4 => ?_) (fun h4 => ?_)
          · replace h4 := of_decide_eq_true h4
            omega
          · replace h4 := of_decide_eq_false h4
            refine AOps.on rfl rfl ?_
            refine Y (Yields.load_ptr_agg (j := 1) kd33 rfl rfl rfl rfl) rfl ?_
            refine AOps.on rfl rfl ?_
            refine Y (Yields.load_ptr_agg (j := 4) kd33 rfl rfl rfl rfl) rfl ?_
            refine AOps.on rfl rfl ?_
            refine AOps.call (gq_XValue (.mk gd gn gt gks) hE1) rfl rfl ⟨bor_avT (.mk gd gn gt gks) (j := 2) rfl, Bor.refl rfl, trivial⟩ rfl Free.val ?_
            refine AOps.on rfl rfl ?_
            refine Y (Yields.not rfl) rfl ?_
            refine Y (Yields.pick_false rfl rfl) rfl ?_
            refine Y (mv rfl) rfl ?_
            refine AOps.split 71 rfl (fun h4b => ?_) (fun h4b => ?_)
            · skip
              simp at h4b
            · skip
              refine AOps.on rfl rfl ?_
              refine Y (mv rfl) rfl ?_
              refine AOps.on rfl rfl ?_
              refine Y (mv rfl) rfl ?_
              refine AOps.on rfl rfl ?_
              refine Y (bn rfl rfl (BinR.bneq Try.underlying4) rfl) rfl ?_
              refine Y (Yields.pick_false rfl rfl) rfl ?_
              refine AOps.nil ?_
              refine AWP.condT rfl (fun h4c => ?_) (fun h4c => ?_)
              · skip
                simp at h4c
              · skip
                refine AWP.skip ?_
                refine AWP.seq ?_
                refine AWP.region ?_
                refine Y (ass rfl) rfl ?_
                refine AOps.nil ?_
                refine AWP.seq ?_
                refine AWP.region ?_
                refine Y (Yields.load_ptr_agg (j := 1) kd33 rfl rfl rfl rfl) rfl ?_
                refine Y (mv rfl) rfl ?_
                refine AOps.leads (Leads.pull 2 rfl) ?_
                refine AOps.callH (.inr rfl) (mark_TValue gd gn gt gks 101 Bg (by omega) hE1) rfl rfl rfl (WkL.refl _) ?_
                rintro _ _ ⟨rfl, rfl⟩
                have hml := markL_length gks 101
                refine Y (ass rfl) rfl ?_
                refine AOps.nil ?_
                refine AWP.seq ?_
                refine AWP.region ?_
                refine Y (ass rfl) rfl ?_
                refine AOps.nil ?_
                refine AWP.seq ?_
                refine AWP.region ?_
                refine Y (Yields.load_ptr_agg (j := 2) kd33 rfl rfl rfl rfl) rfl ?_
                refine Y (mv rfl) rfl ?_
                refine AOps.call (held_XValue gd gn gt gks 101 (by omega) hE1) rfl rfl ⟨bor_avM (j := 0) gd gn gt gks _ hml rfl, Bor.refl rfl, trivial⟩ rfl Free.val ?_
                refine Y (ass rfl) rfl ?_
                refine AOps.nil ?_
                refine AWP.seq ?_
                refine AWP.seq ?_
                refine AWP.region ?_
                refine Y (mv rfl) rfl ?_
                refine Y (bn rfl rfl BinR.lss rfl) rfl ?_
                refine AOps.nil ?_
                refine AWP.condT rfl (fun h6 => ?_) (fun h6 => ?_)
                · replace h6 := of_decide_eq_true h6
                  omega
                · replace h6 := of_decide_eq_false h6
                  refine AWP.skip ?_
                  refine AWP.seq ?_
                  refine AWP.seq ?_
                  refine AWP.region ?_
                  refine Y (mv rfl) rfl ?_
                  refine Y (mv rfl) rfl ?_
                  refine Y (bn rfl rfl BinR.neq rfl) rfl ?_
                  refine AOps.nil ?_
                  refine AWP.condT rfl (fun h7 => ?_) (fun h7 => ?_)
                  · replace h7 := bne_iff_ne.1 h7
                    exact absurd rfl h7
                  · replace h7 := bne_eq_false_iff_eq.1 h7
                    refine AWP.skip ?_
                    refine AWP.seq ?_
                    refine AWP.region ?_
                    refine Y (Yields.load_ptr_agg (j := 5) kd28 rfl rfl rfl rfl) rfl ?_
                    refine AOps.callro (to_AFValue true (.mk kd nm t ks) hk) rfl rfl rfl ?_
                    refine Y (mv rfl) rfl ?_
                    refine Y (mv rfl) rfl ?_
                    refine AOps.callw (iF) rfl rfl ⟨Tr.wk_avR _ _, Wk.refl _, Wk.refl _, trivial⟩ rfl ?_
                    refine Y (mv rfl) rfl ?_
                    refine Y (Yields.extract rfl rfl) rfl ?_
                    refine Y (Yields.extract rfl rfl) rfl ?_
                    refine AOps.alloc rfl z33 rfl rfl fun b5 => ?_
                    refine AOps.store (j := 0) kd33 rfl rfl rfl rfl rfl rfl ?_
                    refine Y (ass rfl) rfl ?_
                    refine AOps.nil ?_
                    refine AWP.seq ?_
                    refine AWP.seq ?_
                    refine AWP.region ?_
                    refine Y (Yields.load_ptr_agg (j := 0) kd33 rfl rfl rfl rfl) rfl ?_
                    refine Y (Yields.load_ptr_agg (j := 5) kd33 rfl rfl rfl rfl) rfl ?_
                    refine AOps.callro (gq_XValue (.mk gd gn gt gks) hE1) rfl rfl rfl ?_
                    refine Y (Yields.not rfl) rfl ?_
                    refine Y (mv rfl) rfl ?_
                    refine AOps.split 99 rfl (fun h8 => ?_) (fun h8 => ?_)
                    · skip
                      simp at h8
                    · skip
                      refine AOps.on rfl rfl ?_
                      refine Y (mv rfl) rfl ?_
                      refine AOps.on rfl rfl ?_
                      refine Y (mv rfl) rfl ?_
                      refine AOps.on rfl rfl ?_
                      refine Y (bn rfl rfl (BinR.bneq Try.underlying4) rfl) rfl ?_
                      refine Y (Yields.pick_false rfl rfl) rfl ?_
                      refine AOps.nil ?_
                      refine AWP.condT rfl (fun h8b => ?_) (fun h8b => ?_)
                      · skip
                        simp at h8b
                      · skip
                        refine AWP.skip ?_
                        refine AWP.seq ?_
                        refine AWP.region ?_
                        refine Y (ass rfl) rfl ?_
                        refine AOps.nil ?_
                        refine AWP.seq ?_
                        refine AWP.region ?_
                        refine Y (Yields.load_ptr_agg (j := 3) kd33 rfl rfl rfl rfl) rfl ?_
                        refine Y (mv rfl) rfl ?_
                        refine AOps.call (held_XValue gd gn gt gks 101 (by omega) hE1) rfl rfl ⟨bor_avM (j := 1) gd gn gt gks _ hml rfl, Bor.refl rfl, trivial⟩ rfl Free.val ?_
                        refine Y (ass rfl) rfl ?_
                        refine AOps.nil ?_
                        refine AWP.seq ?_
                        refine AWP.seq ?_
                        refine AWP.region ?_
                        refine Y (mv rfl) rfl ?_
                        refine Y (bn rfl rfl BinR.lss rfl) rfl ?_
                        refine AOps.nil ?_
                        refine AWP.condT rfl (fun h9 => ?_) (fun h9 => ?_)
                        · replace h9 := of_decide_eq_true h9
                          omega
                        · replace h9 := of_decide_eq_false h9
                          refine AWP.skip ?_
                          refine AWP.seq ?_
                          refine AWP.seq ?_
                          refine AWP.region ?_
                          refine Y (mv rfl) rfl ?_
                          refine Y (mv rfl) rfl ?_
                          refine Y (bn rfl rfl BinR.neq rfl) rfl ?_
                          refine AOps.nil ?_
                          refine AWP.condT rfl (fun h10 => ?_) (fun h10 => ?_)
                          · replace h10 := bne_iff_ne.1 h10
                            exact absurd rfl h10
                          · replace h10 := bne_eq_false_iff_eq.1 h10
                            refine AWP.skip ?_
                            refine AWP.seq ?_
                            refine AWP.region ?_
                            refine Y (ass rfl) rfl ?_
                            refine AOps.nil ?_
                            refine AWP.ret ⟨.inl rfl, ?_⟩
                            exact RetIs.oneV rfl rfl (by (rfl) <;> rfl)
end Go.Proofs.Ytgfdkjpjijajnaa
