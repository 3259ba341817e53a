/- What comes from outside: toValue, toExpr. -/
import Derived.Test.YtccdgppplkfjfaaDoorSz
namespace Go.Proofs.YtccdgppplkfjfaaDoor
open Go Go.Ax Go.Proofs
set_option linter.unusedVariables false
set_option linter.unusedSimpArgs false

theorem tmod_nat (n m : Nat) : (n : Int).tmod m = ((n % m : Nat) : Int) := rfl
theorem roomBehind_AF (n : Nat) : Fn 37 [int n] (int (Tr.room n)) := by
  have h6 : (n : Int).tmod 6 = ((n % 6 : Nat) : Int) := rfl
  have h3 : (n : Int).tmod 3 = ((n % 3 : Nat) : Int) := rfl
  refine AF.intro Tryd.func37 nm37 rfl rfl rfl rfl fun w0 ok0 => ?_
  refine AWP.seq ?_
  refine AWP.region ?_
  refine Y (ass rfl) rfl ?_
  refine AOps.nil ?_
  refine AWP.seq ?_
  refine AWP.seq ?_
  refine AWP.region ?_
  refine Y (mv rfl) rfl ?_
  refine Y (bn rfl rfl (BinR.rem (by decide)) rfl) rfl ?_
  refine Y (bn rfl rfl BinR.eql rfl) rfl ?_
  refine AOps.nil ?_
  refine AWP.condT rfl (fun h => ?_) (fun h => ?_)
  ·
   replace h := eq_of_beq h
   refine AWP.seq ?_
   refine AWP.region ?_
   refine Y (ass rfl) rfl ?_
   refine AOps.nil ?_
   refine AWP.ret ⟨.inl rfl, ?_⟩
   exact RetIs.oneV rfl rfl (by (rw [Tr.room, if_pos (by omega)]) <;> rfl)
  ·
   replace h := ne_of_beq_false h
   refine AWP.skip ?_
   refine AWP.seq ?_
   refine AWP.seq ?_
   refine AWP.region ?_
   refine Y (mv rfl) rfl ?_
   refine Y (bn rfl rfl (BinR.rem (by decide)) rfl) rfl ?_
   refine Y (bn rfl rfl BinR.eql rfl) rfl ?_
   refine AOps.nil ?_
   refine AWP.condT rfl (fun h2 => ?_) (fun h2 => ?_)
   ·
    replace h2 := eq_of_beq h2
    refine AWP.seq ?_
    refine AWP.region ?_
    refine Y (ass rfl) rfl ?_
    refine AOps.nil ?_
    refine AWP.ret ⟨.inl rfl, ?_⟩
    exact RetIs.oneV rfl rfl (by (rw [Tr.room, if_neg (by omega), if_pos (by omega)]) <;> rfl)
   ·
    replace h2 := ne_of_beq_false h2
    refine AWP.skip ?_
    refine AWP.seq ?_
    refine AWP.region ?_
    refine Y (mv rfl) rfl ?_
    refine Y (ass rfl) rfl ?_
    refine AOps.nil ?_
    refine AWP.ret ⟨.inl rfl, ?_⟩
    exact RetIs.oneV rfl rfl (by (rw [Tr.room, if_neg (by omega), if_neg (by omega)]) <;> rfl)

abbrev zero4 : AV := avOf (.agg #[.int .i64 0, .int .i64 0, .string ⟨#[]⟩, .slice none 0 0])
theorem filler_AFValue : Fn 55 [] Tr.fillT.av := by
  refine AF.intro Tryd.func55 nm55 rfl rfl rfl rfl fun w0 ok0 => ?_
  refine AWP.seq ?_
  refine AWP.region ?_
  refine AOps.alloc rfl z40 rfl rfl fun b1 => ?_
  refine AOps.nil ?_
  refine AWP.seq ?_
  refine AWP.region ?_
  refine AOps.buildSlice sl38 z40 rfl rfl rfl rfl rfl fun b2 => ?_
  refine AOps.leads (Leads.wk 1 rfl (Wk.loc0 (m := 4))) ?_
  refine Y (Yields.build pl40 z40 rfl rfl) rfl ?_
  refine AOps.store (j := 1) kd40 rfl rfl rfl rfl rfl rfl ?_
  refine AOps.nil ?_
  refine AWP.ret ⟨.inl rfl, ?_⟩
  exact RetIs.cellR (j := 1) rfl rfl rfl kd40 rfl rfl rfl (by (rfl) <;> rfl)

theorem toS_nilValue : Fn 31 [.ro 4 [] [] false, bool true] (.ro 4 [] [] false) := by
  refine AF.intro Tryd.func31 nm31 rfl rfl rfl rfl fun w0 ok0 => ?_
  refine AWP.seq ?_
  refine AWP.region ?_
  refine Y (ass rfl) rfl ?_
  refine AOps.nil ?_
  refine AWP.seq ?_
  refine AWP.seq ?_
  refine AWP.region ?_
  refine Y (mv rfl) rfl ?_
  refine Y (mv rfl) rfl ?_
  refine AOps.on rfl rfl ?_
  refine Y (mv rfl) rfl ?_
  refine AOps.on rfl rfl ?_
  refine Y (Yields.len_ro sl33 rfl) rfl ?_
  refine AOps.on rfl rfl ?_
  refine Y (bn rfl rfl BinR.eql rfl) rfl ?_
  refine Y (Yields.pick_true rfl rfl) rfl ?_
  refine AOps.nil ?_
  refine AWP.condT rfl (fun h => ?_) (fun h => ?_)
  ·
   replace h := eq_of_beq h
   refine AWP.seq ?_
   refine AWP.region ?_
   refine Y (ass rfl) rfl ?_
   refine AOps.nil ?_
   refine AWP.ret ⟨.inl rfl, ?_⟩
   exact RetIs.wk (RetIs.oneV rfl rfl rfl) Wk.nil
  ·
   replace h := ne_of_beq_false h
   simp at h

theorem toS_ofValue (b : Bool) (ks : List Tr) (hv : ∀ k ∈ ks, k.bnd 1000000 → Fn 13 [k.av, bool b] (k.avR b)) (hk : Tr.bnds 1000000 ks) (hl : ks.length ≤ 1000000) (hb : b = true → ks.length ≠ 0) :
    Fn 31 [.ro 4 (Tr.avs ks) [] false, bool b] (.ro 4 (Tr.avRs b ks) (Tr.spare b ks.length) false) := by
  have hlen := Tr.avs_length ks
  have hlenR := Tr.avRs_length b ks
  have hroom : Tr.room (Tr.avs ks).length = Tr.room ks.length := by rw [hlen]
  have hrle := Tr.room_le ks.length
  refine AF.intro Tryd.func31 nm31 rfl rfl rfl rfl fun w0 ok0 => ?_
  refine AWP.seq ?_
  refine AWP.region ?_
  refine Y (ass rfl) rfl ?_
  refine AOps.nil ?_
  refine AWP.midT [(0, .ro 4 (Tr.avs ks) [] false), (1, bool b)] [] ?_ ?_
  · skip
    refine AWP.seq ?_
    refine AWP.region ?_
    refine Y (mv rfl) rfl ?_
    refine Y (mv rfl) rfl ?_
    refine AOps.split 9 rfl (fun h => ?_) (fun h => ?_)
    · skip
      refine AOps.on rfl rfl ?_
      refine Y (mv rfl) rfl ?_
      refine AOps.on rfl rfl ?_
      refine Y (Yields.len_ro sl33 rfl) rfl ?_
      refine AOps.on rfl rfl ?_
      refine Y (bn rfl rfl BinR.eql rfl) rfl ?_
      refine Y (Yields.pick_true rfl rfl) rfl ?_
      refine AOps.nil ?_
      refine AWP.condT rfl (fun h2 => ?_) (fun h2 => ?_)
      · replace h2 := eq_of_beq h2
        exact absurd h2 (by have := hb h; omega)
      · replace h2 := ne_of_beq_false h2
        refine AWP.skip ?_
        exact Leads.rows 0 ⟨rfl, rfl, trivial⟩
    · skip
      refine AOps.off' rfl rfl rfl rfl ?_
      refine AOps.off' rfl rfl rfl rfl ?_
      refine AOps.off' rfl rfl rfl rfl ?_
      refine Y (Yields.pick_false rfl rfl) rfl ?_
      refine AOps.nil ?_
      refine AWP.cond rfl (fun h => absurd h (by decide)) (fun _ => ?_)
      refine AWP.skip ?_
      exact Leads.rows 0 ⟨rfl, rfl, trivial⟩
  · skip
    refine AWP.seq ?_
    refine AWP.region ?_
    refine Y (mv rfl) rfl ?_
    refine Y (Yields.len_ro sl33 rfl) rfl ?_
    refine Y (mv rfl) rfl ?_
    refine Y (Yields.len_ro sl33 rfl) rfl ?_
    refine AOps.callro (roomBehind_AF (Tr.avs ks).length) rfl rfl rfl ?_
    refine Y (bn rfl rfl (BinR.addI (by omega) (by omega)) rfl) rfl ?_
    refine AOps.makeSlice (N := ks.length + Tr.room ks.length) sl38 z40 rfl rfl rfl rfl rfl rfl (by omega) (by omega) (by omega) (by omega) fun b1 => ?_
    refine Y (ass rfl) rfl ?_
    refine AOps.nil ?_
    refine AWP.seq ?_
    refine AWP.seq ?_
    refine AWP.region ?_
    refine Y (ass rfl) rfl ?_
    refine AOps.nil ?_
    refine AWP.block ?_
    refine AWP.loopV (α := Nat × List AV) (fun pp : Nat × List AV => match pp with | (i, xs) => ⟨[(0, .ro 4 (Tr.avs ks) [] false), (1, bool b), (5, .loc (some b1) 0 (ks.length + Tr.room ks.length) (ks.length + Tr.room ks.length) 4), (6, int i)], [(some b1, ⟨4, xs⟩)]⟩) (fun pp : Nat × List AV => match pp with | (i, xs) => i ≤ ks.length ∧ xs = Tr.avRs b (ks.take i) ++ List.replicate (ks.length + Tr.room ks.length - i) zero4) (fun pp : Nat × List AV => match pp with | (i, xs) => ks.length - i) ((0, List.replicate (ks.length + Tr.room ks.length) zero4)) ?_ ?_ ?_
    · exact Leads.rows 0 ⟨rfl, rfl, rfl, rfl, trivial⟩
    · show 0 ≤ ks.length ∧ (List.replicate (ks.length + Tr.room ks.length) zero4) = Tr.avRs b (ks.take 0) ++ List.replicate (ks.length + Tr.room ks.length - 0) zero4
      exact ⟨Nat.zero_le _, by simp [Tr.avRs]⟩
    · rintro ⟨i, xs⟩ hinv
      replace hinv : i ≤ ks.length ∧ xs = Tr.avRs b (ks.take i) ++ List.replicate (ks.length + Tr.room ks.length - i) zero4 := hinv
      show AWP _ _ _ _ ⟨[(0, .ro 4 (Tr.avs ks) [] false), (1, bool b), (5, .loc (some b1) 0 (ks.length + Tr.room ks.length) (ks.length + Tr.room ks.length) 4), (6, int i)], [(some b1, ⟨4, xs⟩)]⟩
      refine AWP.seq ?_
      refine AWP.seq ?_
      refine AWP.region ?_
      obtain ⟨hi, rfl⟩ := hinv
      refine Y (mv rfl) rfl ?_
      refine Y (mv rfl) rfl ?_
      refine Y (Yields.len_ro sl33 rfl) rfl ?_
      refine Y (bn rfl rfl BinR.lss rfl) rfl ?_
      refine AOps.nil ?_
      refine AWP.condT rfl (fun g => ?_) (fun g => ?_)
      · replace g := of_decide_eq_true g
        have hlt : i < ks.length := by omega
        obtain ⟨k, hk1, hd⟩ := drop_at hlt
        have hA : (Tr.avRs b (ks.take i)).length = i := by rw [Tr.avRs_length, List.length_take]; omega
        refine AWP.skip ?_
        refine AWP.seq ?_
        refine AWP.block ?_
        refine AWP.region ?_
        refine Y (mv rfl) rfl ?_
        refine Y (mv rfl) rfl ?_
        refine Y (mv rfl) rfl ?_
        refine Y (mv rfl) rfl ?_
        refine Y (Yields.idx_roN sl33 rfl rfl rfl rfl (by omega)) rfl ?_
        refine Y (Yields.load_rop_aggV kd35 rfl (Tr.avs_at hk1) (Tr.av_agg k)) rfl ?_
        refine Y (mv rfl) rfl ?_
        refine AOps.callro (hv k (List.mem_of_getElem? hk1) (Tr.bnds_get hk hk1)) rfl rfl (Tr.plain_avR b k) ?_
        refine Y (Yields.idx_locN sl38 rfl rfl rfl (by omega)) rfl ?_
        refine AOps.store (j := 0) kd40 rfl rfl (get_step hA (by omega)) rfl (Tr.avR_cell b k) (Tr.avR_width b k) ?_
        refine AOps.nil ?_
        refine AWP.region ?_
        refine Y (mv rfl) rfl ?_
        refine Y (bn rfl rfl (BinR.addI (by omega) (by omega)) rfl) rfl ?_
        refine Y (ass rfl) rfl ?_
        refine AOps.nil ?_
        refine ⟨(i + 1, (Tr.avRs b (ks.take i) ++ List.replicate (ks.length + Tr.room ks.length - i) zero4).set (0 + i) (k.avR b)), ?_, ?_, ?_⟩
        · show ks.length - (i + 1) < ks.length - i
          omega
        · show (i + 1) ≤ ks.length ∧ ((Tr.avRs b (ks.take i) ++ List.replicate (ks.length + Tr.room ks.length - i) zero4).set (0 + i) (k.avR b)) = Tr.avRs b (ks.take (i + 1)) ++ List.replicate (ks.length + Tr.room ks.length - (i + 1)) zero4
          refine ⟨by omega, ?_⟩
          rw [set_step hA (by omega), ← Tr.avRs_take_succ b hk1, show ks.length + Tr.room ks.length - i - 1 = ks.length + Tr.room ks.length - (i + 1) by omega]
        · exact Leads.rows 0 ⟨rfl, rfl, rfl, rfl, trivial⟩
      · replace g := of_decide_eq_false g
        have hi' : i = ks.length := by omega
        subst hi'
        rw [List.take_length]
        refine AWP.exit ?_
        refine AWP.seq ?_
        refine AWP.seq ?_
        refine AWP.region ?_
        refine Y (mv rfl) rfl ?_
        refine Y (Yields.len_ro sl33 rfl) rfl ?_
        refine Y (ass rfl) rfl ?_
        refine AOps.nil ?_
        refine AWP.block ?_
        refine AWP.loopV (α := Nat × List AV) (fun pp : Nat × List AV => match pp with | (i, xs) => ⟨[(0, .ro 4 (Tr.avs ks) [] false), (1, bool b), (5, .loc (some b1) 0 (ks.length + Tr.room ks.length) (ks.length + Tr.room ks.length) 4), (7, int i)], [(some b1, ⟨4, xs⟩)]⟩) (fun pp : Nat × List AV => match pp with | (i, xs) => i ≤ ks.length + Tr.room ks.length ∧ ks.length ≤ i ∧ xs = Tr.avRs b ks ++ List.replicate (i - ks.length) Tr.fillT.av ++ List.replicate (ks.length + Tr.room ks.length - i) zero4) (fun pp : Nat × List AV => match pp with | (i, xs) => ks.length + Tr.room ks.length - i) ((ks.length, Tr.avRs b ks ++ List.replicate (ks.length + Tr.room ks.length - ks.length) zero4)) ?_ ?_ ?_
        · exact Leads.rows 0 ⟨rfl, rfl, rfl, (by show some (AV.val (Value.int .i64 _)) = some (AV.val (Value.int .i64 _)); rw [hlen]), trivial⟩
        · show ks.length ≤ ks.length + Tr.room ks.length ∧ ks.length ≤ ks.length ∧ (Tr.avRs b ks ++ List.replicate (ks.length + Tr.room ks.length - ks.length) zero4) = Tr.avRs b ks ++ List.replicate (ks.length - ks.length) Tr.fillT.av ++ List.replicate (ks.length + Tr.room ks.length - ks.length) zero4
          exact ⟨by omega, Nat.le_refl _, by simp⟩
        · rintro ⟨i, xs⟩ hinv
          replace hinv : i ≤ ks.length + Tr.room ks.length ∧ ks.length ≤ i ∧ xs = Tr.avRs b ks ++ List.replicate (i - ks.length) Tr.fillT.av ++ List.replicate (ks.length + Tr.room ks.length - i) zero4 := hinv
          show AWP _ _ _ _ ⟨[(0, .ro 4 (Tr.avs ks) [] false), (1, bool b), (5, .loc (some b1) 0 (ks.length + Tr.room ks.length) (ks.length + Tr.room ks.length) 4), (7, int i)], [(some b1, ⟨4, xs⟩)]⟩
          refine AWP.seq ?_
          refine AWP.seq ?_
          refine AWP.region ?_
          obtain ⟨hi, hi1, rfl⟩ := hinv
          refine Y (mv rfl) rfl ?_
          refine Y (mv rfl) rfl ?_
          refine Y (Yields.len_loc sl38 rfl) rfl ?_
          refine Y (bn rfl rfl BinR.lss rfl) rfl ?_
          refine AOps.nil ?_
          refine AWP.condT rfl (fun g2 => ?_) (fun g2 => ?_)
          · replace g2 := of_decide_eq_true g2
            have hA : (Tr.avRs b ks ++ List.replicate (i - ks.length) Tr.fillT.av).length = i := by rw [List.length_append, hlenR, List.length_replicate]; omega
            refine AWP.skip ?_
            refine AWP.seq ?_
            refine AWP.block ?_
            refine AWP.region ?_
            refine Y (mv rfl) rfl ?_
            refine Y (mv rfl) rfl ?_
            refine AOps.callro (filler_AFValue) rfl rfl rfl ?_
            refine Y (Yields.idx_locN sl38 rfl rfl rfl (by omega)) rfl ?_
            refine AOps.store (j := 0) kd40 rfl rfl (get_step hA (by omega)) rfl rfl rfl ?_
            refine AOps.nil ?_
            refine AWP.region ?_
            refine Y (mv rfl) rfl ?_
            refine Y (bn rfl rfl (BinR.addI (by omega) (by omega)) rfl) rfl ?_
            refine Y (ass rfl) rfl ?_
            refine AOps.nil ?_
            refine ⟨(i + 1, (Tr.avRs b ks ++ List.replicate (i - ks.length) Tr.fillT.av ++ List.replicate (ks.length + Tr.room ks.length - i) zero4).set (0 + i) Tr.fillT.av), ?_, ?_, ?_⟩
            · show ks.length + Tr.room ks.length - (i + 1) < ks.length + Tr.room ks.length - i
              omega
            · show (i + 1) ≤ ks.length + Tr.room ks.length ∧ ks.length ≤ (i + 1) ∧ ((Tr.avRs b ks ++ List.replicate (i - ks.length) Tr.fillT.av ++ List.replicate (ks.length + Tr.room ks.length - i) zero4).set (0 + i) Tr.fillT.av) = Tr.avRs b ks ++ List.replicate ((i + 1) - ks.length) Tr.fillT.av ++ List.replicate (ks.length + Tr.room ks.length - (i + 1)) zero4
              refine ⟨by omega, by omega, ?_⟩
              rw [set_step hA (by omega), List.append_assoc (Tr.avRs b ks), ← List.replicate_succ', show i - ks.length + 1 = i + 1 - ks.length by omega, show ks.length + Tr.room ks.length - i - 1 = ks.length + Tr.room ks.length - (i + 1) by omega]
            · exact Leads.rows 0 ⟨rfl, rfl, rfl, rfl, trivial⟩
          · replace g2 := of_decide_eq_false g2
            have hi' : i = ks.length + Tr.room ks.length := by omega
            subst hi'
            refine AWP.exit ?_
            refine AWP.seq ?_
            refine AWP.region ?_
            refine Y (mv rfl) rfl ?_
            refine Y (mv rfl) rfl ?_
            refine Y (Yields.len_ro sl33 rfl) rfl ?_
            refine Y (Yields.slice_loc sl38 rfl (u := ks.length) ⟨.i64, by show some (AV.val (Value.int .i64 _)) = _; rw [hlen]⟩ (by omega)) rfl ?_
            have hsp : Tr.spare b ks.length = List.replicate (Tr.room ks.length) Tr.fillT.av := by
               unfold Tr.spare
               cases b with
               | false => rfl
               | true => rw [if_neg (by simpa using hb rfl)]
            refine Y (ass rfl) rfl ?_
            refine AOps.nil ?_
            refine AWP.ret ⟨.inl rfl, ?_⟩
            exact RetIs.view (RetIs.ownV (j := 0) rfl rfl rfl (by simp [hlenR]) (by simp [hlenR]) rfl) (View.own (xs' := Tr.avRs b ks) (sp' := Tr.spare b ks.length) (by rw [List.append_assoc, List.take_left' hlenR]; exact viewL_refl (Tr.plain_avRs b ks)) (by rw [List.append_assoc, List.drop_left' hlenR, hsp, Nat.sub_self, Nat.add_sub_cancel_left, List.replicate_zero, List.append_nil]; exact viewL_refl (Tr.plain_rep (Tr.plain_av _) _)))

theorem to_AFValue (b : Bool) (k : Tr) : k.bnd 1000000 → Fn 13 [k.av, bool b] (k.avR b) := by
  induction k using Tr.ind
  rename_i kd nm t ks ih
  intro hk
  simp only [Tr.bnd] at hk
  obtain ⟨hk1, hk2, hk3⟩ := hk
  have hS : Fn 31 [.ro 4 (Tr.avs ks) [] false, bool b] (.ro 4 (Tr.avRs b ks) (Tr.spare b ks.length) false) := by
    by_cases hb : b = true ∧ ks.length = 0
    · obtain ⟨rfl, h0⟩ := hb
      have : ks = [] := List.length_eq_zero_iff.1 h0
      subst this
      exact toS_nilValue
    · exact toS_ofValue b ks ih hk3 hk2 (fun e h0 => hb ⟨e, h0⟩)
  refine AF.intro Tryd.func13 nm13 rfl rfl rfl rfl fun w0 ok0 => ?_
  refine AWP.seq ?_
  refine AWP.region ?_
  refine AOps.box rfl rfl rfl rfl fun b1 => ?_
  refine AOps.alloc rfl z40 rfl rfl fun b2 => ?_
  refine AOps.nil ?_
  refine AWP.seq ?_
  refine AWP.region ?_
  refine AOps.alloc rfl z40 rfl rfl fun b3 => ?_
  refine AOps.nil ?_
  refine AWP.seq ?_
  refine AWP.region ?_
  refine Y (Yields.fieldAddr_ptr fo35_0 rfl) rfl ?_
  refine Y (Yields.load_ptr_field (j := 2) kd3 rfl rfl rfl rfl rfl rfl rfl) rfl ?_
  refine Y (Yields.fieldAddr_ptr fo40_0 rfl) rfl ?_
  refine AOps.storeField (j := 0) kd3 rfl rfl rfl rfl rfl rfl rfl ?_
  refine AOps.nil ?_
  refine AWP.seq ?_
  refine AWP.region ?_
  refine Y (Yields.fieldAddr_ptr fo35_1 rfl) rfl ?_
  refine Y (Yields.load_ptr_field (j := 2) kd3 rfl rfl rfl rfl rfl rfl rfl) rfl ?_
  refine Y (Yields.fieldAddr_ptr fo40_1 rfl) rfl ?_
  refine AOps.storeField (j := 0) kd3 rfl rfl rfl rfl rfl rfl rfl ?_
  refine AOps.nil ?_
  refine AWP.seq ?_
  refine AWP.region ?_
  refine Y (Yields.fieldAddr_ptr fo35_2 rfl) rfl ?_
  refine Y (Yields.load_ptr_field (j := 2) kd9 rfl rfl rfl rfl rfl rfl rfl) rfl ?_
  refine Y (Yields.fieldAddr_ptr fo40_2 rfl) rfl ?_
  refine AOps.storeField (j := 0) kd9 rfl rfl rfl rfl rfl rfl rfl ?_
  refine AOps.nil ?_
  refine AWP.seq ?_
  refine AWP.region ?_
  refine Y (Yields.fieldAddr_ptr fo35_3 rfl) rfl ?_
  refine Y (Yields.load_ptr_field (j := 2) kd33 rfl rfl rfl rfl rfl rfl rfl) rfl ?_
  refine Y (mv rfl) rfl ?_
  refine AOps.callro (hS) rfl rfl rfl ?_
  refine Y (Yields.fieldAddr_ptr fo40_3 rfl) rfl ?_
  refine AOps.storeField (j := 0) kd38 rfl rfl rfl rfl rfl rfl rfl ?_
  refine AOps.nil ?_
  refine AWP.seq ?_
  refine AWP.region ?_
  refine Y (Yields.load_ptr_agg (j := 0) kd40 rfl rfl rfl rfl) rfl ?_
  refine AOps.store (j := 1) kd40 rfl rfl rfl rfl rfl rfl ?_
  refine AOps.nil ?_
  refine AWP.ret ⟨.inl rfl, ?_⟩
  exact RetIs.cellR (j := 1) rfl rfl rfl kd40 rfl rfl rfl (by (rfl) <;> rfl)
theorem filler_AFExpr : Fn 45 [] Tr.fillT.av := by
  refine AF.intro Tryd.func45 nm45 rfl rfl rfl rfl fun w0 ok0 => ?_
  refine AWP.seq ?_
  refine AWP.region ?_
  refine AOps.alloc rfl z29 rfl rfl fun b1 => ?_
  refine AOps.nil ?_
  refine AWP.seq ?_
  refine AWP.region ?_
  refine AOps.buildSlice sl27 z29 rfl rfl rfl rfl rfl fun b2 => ?_
  refine AOps.leads (Leads.wk 1 rfl (Wk.loc0 (m := 4))) ?_
  refine Y (Yields.build pl29 z29 rfl rfl) rfl ?_
  refine AOps.store (j := 1) kd29 rfl rfl rfl rfl rfl rfl ?_
  refine AOps.nil ?_
  refine AWP.ret ⟨.inl rfl, ?_⟩
  exact RetIs.cellR (j := 1) rfl rfl rfl kd29 rfl rfl rfl (by (rfl) <;> rfl)

theorem toS_nilExpr : Fn 24 [.ro 4 [] [] false, bool true] (.ro 4 [] [] false) := by
  refine AF.intro Tryd.func24 nm24 rfl rfl rfl rfl fun w0 ok0 => ?_
  refine AWP.seq ?_
  refine AWP.region ?_
  refine Y (ass rfl) rfl ?_
  refine AOps.nil ?_
  refine AWP.seq ?_
  refine AWP.seq ?_
  refine AWP.region ?_
  refine Y (mv rfl) rfl ?_
  refine Y (mv rfl) rfl ?_
  refine AOps.on rfl rfl ?_
  refine Y (mv rfl) rfl ?_
  refine AOps.on rfl rfl ?_
  refine Y (Yields.len_ro sl22 rfl) rfl ?_
  refine AOps.on rfl rfl ?_
  refine Y (bn rfl rfl BinR.eql rfl) rfl ?_
  refine Y (Yields.pick_true rfl rfl) rfl ?_
  refine AOps.nil ?_
  refine AWP.condT rfl (fun h => ?_) (fun h => ?_)
  ·
   replace h := eq_of_beq h
   refine AWP.seq ?_
   refine AWP.region ?_
   refine Y (ass rfl) rfl ?_
   refine AOps.nil ?_
   refine AWP.ret ⟨.inl rfl, ?_⟩
   exact RetIs.wk (RetIs.oneV rfl rfl rfl) Wk.nil
  ·
   replace h := ne_of_beq_false h
   simp at h

theorem toS_ofExpr (b : Bool) (ks : List Tr) (hv : ∀ k ∈ ks, k.bnd 1000000 → Fn 8 [k.av, bool b] (k.avR b)) (hk : Tr.bnds 1000000 ks) (hl : ks.length ≤ 1000000) (hb : b = true → ks.length ≠ 0) :
    Fn 24 [.ro 4 (Tr.avs ks) [] false, bool b] (.ro 4 (Tr.avRs b ks) (Tr.spare b ks.length) false) := by
  have hlen := Tr.avs_length ks
  have hlenR := Tr.avRs_length b ks
  have hroom : Tr.room (Tr.avs ks).length = Tr.room ks.length := by rw [hlen]
  have hrle := Tr.room_le ks.length
  refine AF.intro Tryd.func24 nm24 rfl rfl rfl rfl fun w0 ok0 => ?_
  refine AWP.seq ?_
  refine AWP.region ?_
  refine Y (ass rfl) rfl ?_
  refine AOps.nil ?_
  refine AWP.midT [(0, .ro 4 (Tr.avs ks) [] false), (1, bool b)] [] ?_ ?_
  · skip
    refine AWP.seq ?_
    refine AWP.region ?_
    refine Y (mv rfl) rfl ?_
    refine Y (mv rfl) rfl ?_
    refine AOps.split 9 rfl (fun h => ?_) (fun h => ?_)
    · skip
      refine AOps.on rfl rfl ?_
      refine Y (mv rfl) rfl ?_
      refine AOps.on rfl rfl ?_
      refine Y (Yields.len_ro sl22 rfl) rfl ?_
      refine AOps.on rfl rfl ?_
      refine Y (bn rfl rfl BinR.eql rfl) rfl ?_
      refine Y (Yields.pick_true rfl rfl) rfl ?_
      refine AOps.nil ?_
      refine AWP.condT rfl (fun h2 => ?_) (fun h2 => ?_)
      · replace h2 := eq_of_beq h2
        exact absurd h2 (by have := hb h; omega)
      · replace h2 := ne_of_beq_false h2
        refine AWP.skip ?_
        exact Leads.rows 0 ⟨rfl, rfl, trivial⟩
    · skip
      refine AOps.off' rfl rfl rfl rfl ?_
      refine AOps.off' rfl rfl rfl rfl ?_
      refine AOps.off' rfl rfl rfl rfl ?_
      refine Y (Yields.pick_false rfl rfl) rfl ?_
      refine AOps.nil ?_
      refine AWP.cond rfl (fun h => absurd h (by decide)) (fun _ => ?_)
      refine AWP.skip ?_
      exact Leads.rows 0 ⟨rfl, rfl, trivial⟩
  · skip
    refine AWP.seq ?_
    refine AWP.region ?_
    refine Y (mv rfl) rfl ?_
    refine Y (Yields.len_ro sl22 rfl) rfl ?_
    refine Y (mv rfl) rfl ?_
    refine Y (Yields.len_ro sl22 rfl) rfl ?_
    refine AOps.callro (roomBehind_AF (Tr.avs ks).length) rfl rfl rfl ?_
    refine Y (bn rfl rfl (BinR.addI (by omega) (by omega)) rfl) rfl ?_
    refine AOps.makeSlice (N := ks.length + Tr.room ks.length) sl27 z29 rfl rfl rfl rfl rfl rfl (by omega) (by omega) (by omega) (by omega) fun b1 => ?_
    refine Y (ass rfl) rfl ?_
    refine AOps.nil ?_
    refine AWP.seq ?_
    refine AWP.seq ?_
    refine AWP.region ?_
    refine Y (ass rfl) rfl ?_
    refine AOps.nil ?_
    refine AWP.block ?_
    refine AWP.loopV (α := Nat × List AV) (fun pp : Nat × List AV => match pp with | (i, xs) => ⟨[(0, .ro 4 (Tr.avs ks) [] false), (1, bool b), (5, .loc (some b1) 0 (ks.length + Tr.room ks.length) (ks.length + Tr.room ks.length) 4), (6, int i)], [(some b1, ⟨4, xs⟩)]⟩) (fun pp : Nat × List AV => match pp with | (i, xs) => i ≤ ks.length ∧ xs = Tr.avRs b (ks.take i) ++ List.replicate (ks.length + Tr.room ks.length - i) zero4) (fun pp : Nat × List AV => match pp with | (i, xs) => ks.length - i) ((0, List.replicate (ks.length + Tr.room ks.length) zero4)) ?_ ?_ ?_
    · exact Leads.rows 0 ⟨rfl, rfl, rfl, rfl, trivial⟩
    · show 0 ≤ ks.length ∧ (List.replicate (ks.length + Tr.room ks.length) zero4) = Tr.avRs b (ks.take 0) ++ List.replicate (ks.length + Tr.room ks.length - 0) zero4
      exact ⟨Nat.zero_le _, by simp [Tr.avRs]⟩
    · rintro ⟨i, xs⟩ hinv
      replace hinv : i ≤ ks.length ∧ xs = Tr.avRs b (ks.take i) ++ List.replicate (ks.length + Tr.room ks.length - i) zero4 := hinv
      show AWP _ _ _ _ ⟨[(0, .ro 4 (Tr.avs ks) [] false), (1, bool b), (5, .loc (some b1) 0 (ks.length + Tr.room ks.length) (ks.length + Tr.room ks.length) 4), (6, int i)], [(some b1, ⟨4, xs⟩)]⟩
      refine AWP.seq ?_
      refine AWP.seq ?_
      refine AWP.region ?_
      obtain ⟨hi, rfl⟩ := hinv
      refine Y (mv rfl) rfl ?_
      refine Y (mv rfl) rfl ?_
      refine Y (Yields.len_ro sl22 rfl) rfl ?_
      refine Y (bn rfl rfl BinR.lss rfl) rfl ?_
      refine AOps.nil ?_
      refine AWP.condT rfl (fun g => ?_) (fun g => ?_)
      · replace g := of_decide_eq_true g
        have hlt : i < ks.length := by omega
        obtain ⟨k, hk1, hd⟩ := drop_at hlt
        have hA : (Tr.avRs b (ks.take i)).length = i := by rw [Tr.avRs_length, List.length_take]; omega
        refine AWP.skip ?_
        refine AWP.seq ?_
        refine AWP.block ?_
        refine AWP.region ?_
        refine Y (mv rfl) rfl ?_
        refine Y (mv rfl) rfl ?_
        refine Y (mv rfl) rfl ?_
        refine Y (mv rfl) rfl ?_
        refine Y (Yields.idx_roN sl22 rfl rfl rfl rfl (by omega)) rfl ?_
        refine Y (Yields.load_rop_aggV kd24 rfl (Tr.avs_at hk1) (Tr.av_agg k)) rfl ?_
        refine Y (mv rfl) rfl ?_
        refine AOps.callro (hv k (List.mem_of_getElem? hk1) (Tr.bnds_get hk hk1)) rfl rfl (Tr.plain_avR b k) ?_
        refine Y (Yields.idx_locN sl27 rfl rfl rfl (by omega)) rfl ?_
        refine AOps.store (j := 0) kd29 rfl rfl (get_step hA (by omega)) rfl (Tr.avR_cell b k) (Tr.avR_width b k) ?_
        refine AOps.nil ?_
        refine AWP.region ?_
        refine Y (mv rfl) rfl ?_
        refine Y (bn rfl rfl (BinR.addI (by omega) (by omega)) rfl) rfl ?_
        refine Y (ass rfl) rfl ?_
        refine AOps.nil ?_
        refine ⟨(i + 1, (Tr.avRs b (ks.take i) ++ List.replicate (ks.length + Tr.room ks.length - i) zero4).set (0 + i) (k.avR b)), ?_, ?_, ?_⟩
        · show ks.length - (i + 1) < ks.length - i
          omega
        · show (i + 1) ≤ ks.length ∧ ((Tr.avRs b (ks.take i) ++ List.replicate (ks.length + Tr.room ks.length - i) zero4).set (0 + i) (k.avR b)) = Tr.avRs b (ks.take (i + 1)) ++ List.replicate (ks.length + Tr.room ks.length - (i + 1)) zero4
          refine ⟨by omega, ?_⟩
          rw [set_step hA (by omega), ← Tr.avRs_take_succ b hk1, show ks.length + Tr.room ks.length - i - 1 = ks.length + Tr.room ks.length - (i + 1) by omega]
        · exact Leads.rows 0 ⟨rfl, rfl, rfl, rfl, trivial⟩
      · replace g := of_decide_eq_false g
        have hi' : i = ks.length := by omega
        subst hi'
        rw [List.take_length]
        refine AWP.exit ?_
        refine AWP.seq ?_
        refine AWP.seq ?_
        refine AWP.region ?_
        refine Y (mv rfl) rfl ?_
        refine Y (Yields.len_ro sl22 rfl) rfl ?_
        refine Y (ass rfl) rfl ?_
        refine AOps.nil ?_
        refine AWP.block ?_
        refine AWP.loopV (α := Nat × List AV) (fun pp : Nat × List AV => match pp with | (i, xs) => ⟨[(0, .ro 4 (Tr.avs ks) [] false), (1, bool b), (5, .loc (some b1) 0 (ks.length + Tr.room ks.length) (ks.length + Tr.room ks.length) 4), (7, int i)], [(some b1, ⟨4, xs⟩)]⟩) (fun pp : Nat × List AV => match pp with | (i, xs) => i ≤ ks.length + Tr.room ks.length ∧ ks.length ≤ i ∧ xs = Tr.avRs b ks ++ List.replicate (i - ks.length) Tr.fillT.av ++ List.replicate (ks.length + Tr.room ks.length - i) zero4) (fun pp : Nat × List AV => match pp with | (i, xs) => ks.length + Tr.room ks.length - i) ((ks.length, Tr.avRs b ks ++ List.replicate (ks.length + Tr.room ks.length - ks.length) zero4)) ?_ ?_ ?_
        · exact Leads.rows 0 ⟨rfl, rfl, rfl, (by show some (AV.val (Value.int .i64 _)) = some (AV.val (Value.int .i64 _)); rw [hlen]), trivial⟩
        · show ks.length ≤ ks.length + Tr.room ks.length ∧ ks.length ≤ ks.length ∧ (Tr.avRs b ks ++ List.replicate (ks.length + Tr.room ks.length - ks.length) zero4) = Tr.avRs b ks ++ List.replicate (ks.length - ks.length) Tr.fillT.av ++ List.replicate (ks.length + Tr.room ks.length - ks.length) zero4
          exact ⟨by omega, Nat.le_refl _, by simp⟩
        · rintro ⟨i, xs⟩ hinv
          replace hinv : i ≤ ks.length + Tr.room ks.length ∧ ks.length ≤ i ∧ xs = Tr.avRs b ks ++ List.replicate (i - ks.length) Tr.fillT.av ++ List.replicate (ks.length + Tr.room ks.length - i) zero4 := hinv
          show AWP _ _ _ _ ⟨[(0, .ro 4 (Tr.avs ks) [] false), (1, bool b), (5, .loc (some b1) 0 (ks.length + Tr.room ks.length) (ks.length + Tr.room ks.length) 4), (7, int i)], [(some b1, ⟨4, xs⟩)]⟩
          refine AWP.seq ?_
          refine AWP.seq ?_
          refine AWP.region ?_
          obtain ⟨hi, hi1, rfl⟩ := hinv
          refine Y (mv rfl) rfl ?_
          refine Y (mv rfl) rfl ?_
          refine Y (Yields.len_loc sl27 rfl) rfl ?_
          refine Y (bn rfl rfl BinR.lss rfl) rfl ?_
          refine AOps.nil ?_
          refine AWP.condT rfl (fun g2 => ?_) (fun g2 => ?_)
          · replace g2 := of_decide_eq_true g2
            have hA : (Tr.avRs b ks ++ List.replicate (i - ks.length) Tr.fillT.av).length = i := by rw [List.length_append, hlenR, List.length_replicate]; omega
            refine AWP.skip ?_
            refine AWP.seq ?_
            refine AWP.block ?_
            refine AWP.region ?_
            refine Y (mv rfl) rfl ?_
            refine Y (mv rfl) rfl ?_
            refine AOps.callro (filler_AFExpr) rfl rfl rfl ?_
            refine Y (Yields.idx_locN sl27 rfl rfl rfl (by omega)) rfl ?_
            refine AOps.store (j := 0) kd29 rfl rfl (get_step hA (by omega)) rfl rfl rfl ?_
            refine AOps.nil ?_
            refine AWP.region ?_
            refine Y (mv rfl) rfl ?_
            refine Y (bn rfl rfl (BinR.addI (by omega) (by omega)) rfl) rfl ?_
            refine Y (ass rfl) rfl ?_
            refine AOps.nil ?_
            refine ⟨(i + 1, (Tr.avRs b ks ++ List.replicate (i - ks.length) Tr.fillT.av ++ List.replicate (ks.length + Tr.room ks.length - i) zero4).set (0 + i) Tr.fillT.av), ?_, ?_, ?_⟩
            · show ks.length + Tr.room ks.length - (i + 1) < ks.length + Tr.room ks.length - i
              omega
            · show (i + 1) ≤ ks.length + Tr.room ks.length ∧ ks.length ≤ (i + 1) ∧ ((Tr.avRs b ks ++ List.replicate (i - ks.length) Tr.fillT.av ++ List.replicate (ks.length + Tr.room ks.length - i) zero4).set (0 + i) Tr.fillT.av) = Tr.avRs b ks ++ List.replicate ((i + 1) - ks.length) Tr.fillT.av ++ List.replicate (ks.length + Tr.room ks.length - (i + 1)) zero4
              refine ⟨by omega, by omega, ?_⟩
              rw [set_step hA (by omega), List.append_assoc (Tr.avRs b ks), ← List.replicate_succ', show i - ks.length + 1 = i + 1 - ks.length by omega, show ks.length + Tr.room ks.length - i - 1 = ks.length + Tr.room ks.length - (i + 1) by omega]
            · exact Leads.rows 0 ⟨rfl, rfl, rfl, rfl, trivial⟩
          · replace g2 := of_decide_eq_false g2
            have hi' : i = ks.length + Tr.room ks.length := by omega
            subst hi'
            refine AWP.exit ?_
            refine AWP.seq ?_
            refine AWP.region ?_
            refine Y (mv rfl) rfl ?_
            refine Y (mv rfl) rfl ?_
            refine Y (Yields.len_ro sl22 rfl) rfl ?_
            refine Y (Yields.slice_loc sl27 rfl (u := ks.length) ⟨.i64, by show some (AV.val (Value.int .i64 _)) = _; rw [hlen]⟩ (by omega)) rfl ?_
            have hsp : Tr.spare b ks.length = List.replicate (Tr.room ks.length) Tr.fillT.av := by
               unfold Tr.spare
               cases b with
               | false => rfl
               | true => rw [if_neg (by simpa using hb rfl)]
            refine Y (ass rfl) rfl ?_
            refine AOps.nil ?_
            refine AWP.ret ⟨.inl rfl, ?_⟩
            exact RetIs.view (RetIs.ownV (j := 0) rfl rfl rfl (by simp [hlenR]) (by simp [hlenR]) rfl) (View.own (xs' := Tr.avRs b ks) (sp' := Tr.spare b ks.length) (by rw [List.append_assoc, List.take_left' hlenR]; exact viewL_refl (Tr.plain_avRs b ks)) (by rw [List.append_assoc, List.drop_left' hlenR, hsp, Nat.sub_self, Nat.add_sub_cancel_left, List.replicate_zero, List.append_nil]; exact viewL_refl (Tr.plain_rep (Tr.plain_av _) _)))

theorem to_AFExpr (b : Bool) (k : Tr) : k.bnd 1000000 → Fn 8 [k.av, bool b] (k.avR b) := by
  induction k using Tr.ind
  rename_i kd nm t ks ih
  intro hk
  simp only [Tr.bnd] at hk
  obtain ⟨hk1, hk2, hk3⟩ := hk
  have hS : Fn 24 [.ro 4 (Tr.avs ks) [] false, bool b] (.ro 4 (Tr.avRs b ks) (Tr.spare b ks.length) false) := by
    by_cases hb : b = true ∧ ks.length = 0
    · obtain ⟨rfl, h0⟩ := hb
      have : ks = [] := List.length_eq_zero_iff.1 h0
      subst this
      exact toS_nilExpr
    · exact toS_ofExpr b ks ih hk3 hk2 (fun e h0 => hb ⟨e, h0⟩)
  refine AF.intro Tryd.func8 nm8 rfl rfl rfl rfl fun w0 ok0 => ?_
  refine AWP.seq ?_
  refine AWP.region ?_
  refine AOps.box rfl rfl rfl rfl fun b1 => ?_
  refine AOps.alloc rfl z29 rfl rfl fun b2 => ?_
  refine AOps.nil ?_
  refine AWP.seq ?_
  refine AWP.region ?_
  refine AOps.alloc rfl z29 rfl rfl fun b3 => ?_
  refine AOps.nil ?_
  refine AWP.seq ?_
  refine AWP.region ?_
  refine Y (Yields.fieldAddr_ptr fo24_0 rfl) rfl ?_
  refine Y (Yields.load_ptr_field (j := 2) kd3 rfl rfl rfl rfl rfl rfl rfl) rfl ?_
  refine Y (Yields.fieldAddr_ptr fo29_0 rfl) rfl ?_
  refine AOps.storeField (j := 0) kd3 rfl rfl rfl rfl rfl rfl rfl ?_
  refine AOps.nil ?_
  refine AWP.seq ?_
  refine AWP.region ?_
  refine Y (Yields.fieldAddr_ptr fo24_1 rfl) rfl ?_
  refine Y (Yields.load_ptr_field (j := 2) kd3 rfl rfl rfl rfl rfl rfl rfl) rfl ?_
  refine Y (Yields.fieldAddr_ptr fo29_1 rfl) rfl ?_
  refine AOps.storeField (j := 0) kd3 rfl rfl rfl rfl rfl rfl rfl ?_
  refine AOps.nil ?_
  refine AWP.seq ?_
  refine AWP.region ?_
  refine Y (Yields.fieldAddr_ptr fo24_2 rfl) rfl ?_
  refine Y (Yields.load_ptr_field (j := 2) kd9 rfl rfl rfl rfl rfl rfl rfl) rfl ?_
  refine Y (Yields.fieldAddr_ptr fo29_2 rfl) rfl ?_
  refine AOps.storeField (j := 0) kd9 rfl rfl rfl rfl rfl rfl rfl ?_
  refine AOps.nil ?_
  refine AWP.seq ?_
  refine AWP.region ?_
  refine Y (Yields.fieldAddr_ptr fo24_3 rfl) rfl ?_
  refine Y (Yields.load_ptr_field (j := 2) kd22 rfl rfl rfl rfl rfl rfl rfl) rfl ?_
  refine Y (mv rfl) rfl ?_
  refine AOps.callro (hS) rfl rfl rfl ?_
  refine Y (Yields.fieldAddr_ptr fo29_3 rfl) rfl ?_
  refine AOps.storeField (j := 0) kd27 rfl rfl rfl rfl rfl rfl rfl ?_
  refine AOps.nil ?_
  refine AWP.seq ?_
  refine AWP.region ?_
  refine Y (Yields.load_ptr_agg (j := 0) kd29 rfl rfl rfl rfl) rfl ?_
  refine AOps.store (j := 1) kd29 rfl rfl rfl rfl rfl rfl ?_
  refine AOps.nil ?_
  refine AWP.ret ⟨.inl rfl, ?_⟩
  exact RetIs.cellR (j := 1) rfl rfl rfl kd29 rfl rfl rfl (by (rfl) <;> rfl)
end Go.Proofs.YtccdgppplkfjfaaDoor
