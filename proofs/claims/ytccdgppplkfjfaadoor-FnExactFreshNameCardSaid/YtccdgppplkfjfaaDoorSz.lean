/- How great a tree is: szValue, szValueS. -/
import Derived.Test.YtccdgppplkfjfaaDoorTree
import Derived.Test.YtccdgppplkfjfaaDoorBase
namespace Go.Proofs.YtccdgppplkfjfaaDoor
open Go Go.Ax Go.Proofs
set_option linter.unusedVariables false

mutual
def szV : Tr → Int → Int
  | .mk k n t ks, left => if left - t.size < 0 then -1 else if left - t.size - ks.length < 0 then -1 else szL ks (left - t.size - ks.length)
def szL : List Tr → Int → Int
  | [], left => left
  | k :: ks, left => if szV k left < 0 then -1 else szL ks (szV k left)
end
def szVs (ks : List Tr) (left : Int) : Int := if left - ks.length < 0 then -1 else szL ks (left - ks.length)
theorem szV_eq (k n : Int) (t : ByteArray) (ks : List Tr) (left : Int) : szV (.mk k n t ks) left = if left - t.size < 0 then -1 else szVs ks (left - t.size) := by
  rw [szV, szVs]
mutual
theorem szV_le : ∀ (k : Tr) (left : Int), 0 ≤ left → szV k left ≤ left
  | .mk k n t ks, left, h => by
    rw [szV]
    split
    · omega
    · split
      · omega
      · have := szL_le ks (left - t.size - ks.length) (by omega); omega
theorem szL_le : ∀ (ks : List Tr) (left : Int), 0 ≤ left → szL ks left ≤ left
  | [], left, h => by rw [szL]; omega
  | k :: ks, left, h => by
    rw [szL]
    split
    · omega
    · have h1 := szV_le k left h
      have h2 := szL_le ks (szV k left) (by omega)
      omega
end

theorem szL_neg : ∀ (ks : List Tr) (left : Int), 0 ≤ left → szL ks left < 0 → szL ks left = -1
  | [], left, h, hn => by rw [szL] at hn; omega
  | k :: ks, left, h, hn => by
    rw [szL] at hn ⊢
    split
    · rfl
    · rename_i h1; rw [if_neg h1] at hn; exact szL_neg ks _ (by omega) hn
theorem szVs_neg {ks : List Tr} {left : Int} (hn : szVs ks left < 0) : szVs ks left = -1 := by
  unfold szVs at hn ⊢
  split
  · rfl
  · rename_i h1; rw [if_neg h1] at hn; exact szL_neg ks _ (by omega) hn


mutual
theorem szV_bnd : ∀ (k : Tr) (left : Int), 0 ≤ left → left ≤ 1000000 → 0 ≤ szV k left → k.bnd 1000000
  | .mk k n t ks, left, h0, h1, h => by
    rw [szV] at h
    split at h
    · omega
    · split at h
      · omega
      · exact ⟨by omega, by omega, szL_bnd ks _ (by omega) (by omega) h⟩
theorem szL_bnd : ∀ (ks : List Tr) (left : Int), 0 ≤ left → left ≤ 1000000 → 0 ≤ szL ks left → Tr.bnds 1000000 ks
  | [], left, h0, h1, h => trivial
  | k :: ks, left, h0, h1, h => by
    rw [szL] at h
    split at h
    · omega
    · have := szV_le k left h0
      exact ⟨szV_bnd k left h0 h1 (by omega), szL_bnd ks _ (by omega) (by omega) h⟩
end
theorem szVs_ofValue (ks : List Tr) (left : Int) (hv : ∀ k ∈ ks, ∀ left : Int, k.bnd 9223372036854775807 → 0 ≤ left → left ≤ 1000000 → Fn 11 [k.av, .val (.int .i64 left)] (.val (.int .i64 (szV k left))))
    (hk : Tr.bnds 9223372036854775807 ks) (hl : ks.length ≤ 9223372036854775807) (h0 : 0 ≤ left) (h1 : left ≤ 1000000) :
    Fn 28 [.ro 4 (Tr.avs ks) [] false, .val (.int .i64 left)] (.val (.int .i64 (szVs ks left))) := by
  have hlen := Tr.avs_length ks
  refine AF.intro Tryd.func28 nm28 rfl rfl rfl rfl fun w0 ok0 => ?_
  refine AWP.seq ?_
  refine AWP.region ?_
  refine Y (ass rfl) rfl ?_
  refine AOps.nil ?_
  refine AWP.seq ?_
  refine AWP.region ?_
  refine Y (mv rfl) rfl ?_
  refine Y (mv rfl) rfl ?_
  refine Y (Yields.len_ro sl33 rfl) rfl ?_
  refine Y (bn rfl rfl (BinR.subI (by omega) (by omega)) rfl) rfl ?_
  refine Y (ass rfl) rfl ?_
  refine AOps.nil ?_
  refine AWP.seq ?_
  refine AWP.seq ?_
  refine AWP.region ?_
  refine Y (mv rfl) rfl ?_
  refine Y (bn rfl rfl BinR.lss rfl) rfl ?_
  refine AOps.nil ?_
  refine AWP.condT rfl (fun h => ?_) (fun h => ?_)
  ·
   replace h := of_decide_eq_true h
   refine AWP.seq ?_
   refine AWP.region ?_
   refine Y (ass rfl) rfl ?_
   refine AOps.nil ?_
   refine AWP.ret ⟨.inl rfl, ?_⟩
   exact RetIs.oneV rfl rfl (by (rw [szVs, if_pos (by omega)]) <;> rfl)
  ·
   replace h := of_decide_eq_false h
   refine AWP.skip ?_
   refine AWP.seq ?_
   refine AWP.seq ?_
   refine AWP.region ?_
   refine Y (ass rfl) rfl ?_
   refine AOps.nil ?_
   refine AWP.block ?_
   refine AWP.loopV (α := Nat × Int) (fun pp : Nat × Int => match pp with | (i, acc) => ⟨[(0, .ro 4 (Tr.avs ks) [] false), (1, .val (.int .i64 acc)), (5, .val (.int .i64 i))], []⟩) (fun pp : Nat × Int => match pp with | (i, acc) => i ≤ ks.length ∧ 0 ≤ acc ∧ acc ≤ 1000000 ∧ szL (ks.drop i) acc = szVs ks left) (fun pp : Nat × Int => match pp with | (i, acc) => ks.length - i) ((0, left - (Tr.avs ks).length)) ?_ ?_ ?_
   · exact Leads.rows 0 ⟨rfl, rfl, rfl, trivial⟩
   ·
    show 0 ≤ ks.length ∧ 0 ≤ (left - (Tr.avs ks).length) ∧ (left - (Tr.avs ks).length) ≤ 1000000 ∧ szL (ks.drop 0) (left - (Tr.avs ks).length) = szVs ks left
    refine ⟨Nat.zero_le _, by omega, by omega, ?_⟩
    rw [szVs, if_neg (by omega), hlen]; rfl
   ·
    rintro ⟨i, acc⟩ hinv
    replace hinv : i ≤ ks.length ∧ 0 ≤ acc ∧ acc ≤ 1000000 ∧ szL (ks.drop i) acc = szVs ks left := hinv
    show AWP _ _ _ _ ⟨[(0, .ro 4 (Tr.avs ks) [] false), (1, .val (.int .i64 acc)), (5, .val (.int .i64 i))], []⟩
    refine AWP.seq ?_
    refine AWP.seq ?_
    refine AWP.region ?_
    obtain ⟨hi, ha0, ha1, hacc⟩ := hinv
    refine Y (mv rfl) rfl ?_
    refine Y (mv rfl) rfl ?_
    refine Y (Yields.len_ro sl33 rfl) rfl ?_
    refine Y (bn rfl rfl BinR.lss rfl) rfl ?_
    refine AOps.nil ?_
    refine AWP.condT rfl (fun g => ?_) (fun g => ?_)
    ·
     replace g := of_decide_eq_true g
     have hlt : i < ks.length := by omega
     obtain ⟨k, hk1, hd⟩ := drop_at hlt
     refine AWP.skip ?_
     refine AWP.seq ?_
     refine AWP.block ?_
     refine AWP.seq ?_
     refine AWP.region ?_
     refine Y (mv rfl) rfl ?_
     refine Y (mv rfl) rfl ?_
     refine Y (Yields.idx_roN sl33 rfl rfl rfl rfl (by omega)) rfl ?_
     refine Y (Yields.load_rop_aggV kd35 rfl (Tr.avs_at hk1) (Tr.av_agg k)) rfl ?_
     refine Y (mv rfl) rfl ?_
     refine AOps.callro (hv k (List.mem_of_getElem? hk1) acc (Tr.bnds_get hk hk1) ha0 ha1) rfl rfl rfl ?_
     have hle := szV_le k acc ha0
     rw [hd, szL] at hacc
     refine Y (ass rfl) rfl ?_
     refine AOps.nil ?_
     refine AWP.seq ?_
     refine AWP.region ?_
     refine Y (mv rfl) rfl ?_
     refine Y (bn rfl rfl BinR.lss rfl) rfl ?_
     refine AOps.nil ?_
     refine AWP.condT rfl (fun g2 => ?_) (fun g2 => ?_)
     ·
      replace g2 := of_decide_eq_true g2
      refine AWP.seq ?_
      refine AWP.region ?_
      refine Y (ass rfl) rfl ?_
      refine AOps.nil ?_
      refine AWP.ret ⟨.inl rfl, ?_⟩
      exact RetIs.oneV rfl rfl (by (rw [← hacc, if_pos g2]) <;> rfl)
     ·
      replace g2 := of_decide_eq_false g2
      refine AWP.skip ?_
      refine AWP.region ?_
      refine Y (mv rfl) rfl ?_
      refine Y (bn rfl rfl (BinR.addI (by omega) (by omega)) rfl) rfl ?_
      refine Y (ass rfl) rfl ?_
      refine AOps.nil ?_
      refine ⟨(i + 1, szV k acc), ?_, ?_, ?_⟩
      ·
       show ks.length - (i + 1) < ks.length - i
       omega
      ·
       show (i + 1) ≤ ks.length ∧ 0 ≤ (szV k acc) ∧ (szV k acc) ≤ 1000000 ∧ szL (ks.drop (i + 1)) (szV k acc) = szVs ks left
       exact ⟨by omega, by omega, by omega, by rw [← hacc, if_neg g2]⟩
      · exact Leads.rows 0 ⟨rfl, rfl, rfl, trivial⟩
    ·
     replace g := of_decide_eq_false g
     rw [List.drop_eq_nil_of_le (by omega), szL] at hacc
     refine AWP.exit ?_
     refine AWP.seq ?_
     refine AWP.region ?_
     refine Y (mv rfl) rfl ?_
     refine Y (ass rfl) rfl ?_
     refine AOps.nil ?_
     refine AWP.ret ⟨.inl rfl, ?_⟩
     exact RetIs.oneV rfl rfl (by (rw [hacc]) <;> rfl)

theorem szV_AFValue (k : Tr) : ∀ (left : Int), k.bnd 9223372036854775807 → 0 ≤ left → left ≤ 1000000 → Fn 11 [k.av, .val (.int .i64 left)] (.val (.int .i64 (szV k left))) := by
  induction k using Tr.ind
  rename_i kd nm t ks ih
  intro left hk h0 h1
  simp only [Tr.bnd] at hk
  obtain ⟨hk1, hk2, hk3⟩ := hk
  refine AF.intro Tryd.func11 nm11 rfl rfl rfl rfl fun w0 ok0 => ?_
  refine AWP.seq ?_
  refine AWP.region ?_
  refine AOps.box rfl rfl rfl rfl fun b1 => ?_
  refine Y (ass rfl) rfl ?_
  refine AOps.nil ?_
  refine AWP.seq ?_
  refine AWP.region ?_
  refine Y (mv rfl) rfl ?_
  refine Y (Yields.fieldAddr_ptr fo35_2 rfl) rfl ?_
  refine Y (Yields.load_ptr_field (j := 0) kd9 rfl rfl rfl rfl rfl rfl rfl) rfl ?_
  refine Y (Yields.len_str Tryd.underlying9 rfl) rfl ?_
  refine Y (bn rfl rfl (BinR.subI (by omega) (by omega)) rfl) rfl ?_
  refine Y (ass rfl) rfl ?_
  refine AOps.nil ?_
  refine AWP.seq ?_
  refine AWP.seq ?_
  refine AWP.region ?_
  refine Y (mv rfl) rfl ?_
  refine Y (bn rfl rfl BinR.lss rfl) rfl ?_
  refine AOps.nil ?_
  refine AWP.condT rfl (fun h => ?_) (fun h => ?_)
  ·
   replace h := of_decide_eq_true h
   refine AWP.seq ?_
   refine AWP.region ?_
   refine Y (ass rfl) rfl ?_
   refine AOps.nil ?_
   refine AWP.ret ⟨.inl rfl, ?_⟩
   exact RetIs.oneV rfl rfl (by (rw [szV_eq, if_pos h]) <;> rfl)
  ·
   replace h := of_decide_eq_false h
   refine AWP.skip ?_
   refine AWP.seq ?_
   refine AWP.region ?_
   refine Y (Yields.fieldAddr_ptr fo35_3 rfl) rfl ?_
   refine Y (Yields.load_ptr_field (j := 0) kd33 rfl rfl rfl rfl rfl rfl rfl) rfl ?_
   refine Y (mv rfl) rfl ?_
   refine AOps.callro (szVs_ofValue ks (left - t.size) ih hk3 hk2 (by omega) (by omega)) rfl rfl rfl ?_
   refine Y (ass rfl) rfl ?_
   refine AOps.nil ?_
   refine AWP.seq ?_
   refine AWP.seq ?_
   refine AWP.region ?_
   refine Y (mv rfl) rfl ?_
   refine Y (bn rfl rfl BinR.lss rfl) rfl ?_
   refine AOps.nil ?_
   refine AWP.condT rfl (fun g => ?_) (fun g => ?_)
   ·
    replace g := of_decide_eq_true g
    refine AWP.seq ?_
    refine AWP.region ?_
    refine Y (ass rfl) rfl ?_
    refine AOps.nil ?_
    refine AWP.ret ⟨.inl rfl, ?_⟩
    exact RetIs.oneV rfl rfl (by (rw [szV_eq, if_neg h, szVs_neg g]) <;> rfl)
   ·
    replace g := of_decide_eq_false g
    refine AWP.skip ?_
    refine AWP.seq ?_
    refine AWP.region ?_
    refine Y (mv rfl) rfl ?_
    refine Y (ass rfl) rfl ?_
    refine AOps.nil ?_
    refine AWP.ret ⟨.inl rfl, ?_⟩
    exact RetIs.oneV rfl rfl (by (rw [szV_eq, if_neg h]) <;> rfl)
theorem szVs_AFValue (ks : List Tr) (left : Int) (hk : Tr.bnds 9223372036854775807 ks) (hl : ks.length ≤ 9223372036854775807) (h0 : 0 ≤ left) (h1 : left ≤ 1000000) :
    Fn 28 [.ro 4 (Tr.avs ks) [] false, .val (.int .i64 left)] (.val (.int .i64 (szVs ks left))) :=
  szVs_ofValue ks left (fun k _ => szV_AFValue k) hk hl h0 h1
theorem szV_lessValue (k : Tr) (left : Int) (hk : k.bnd 9223372036854775807) (h : left < 0) (h2 : -30000000000000000000 ≤ left) (h3 : -9223372036854775808 ≤ left - k.text.size) : Fn 11 [k.av, .val (.int .i64 left)] (.val (.int .i64 (-1))) := by
  obtain ⟨kd, nm, t, ks⟩ := k
  simp only [Tr.bnd] at hk
  obtain ⟨hk1, hk2, hk3⟩ := hk
  simp only [Tr.text] at h3
  refine AF.intro Tryd.func11 nm11 rfl rfl rfl rfl fun w0 ok0 => ?_
  refine AWP.seq ?_
  refine AWP.region ?_
  refine AOps.box rfl rfl rfl rfl fun b1 => ?_
  refine Y (ass rfl) rfl ?_
  refine AOps.nil ?_
  refine AWP.seq ?_
  refine AWP.region ?_
  refine Y (mv rfl) rfl ?_
  refine Y (Yields.fieldAddr_ptr fo35_2 rfl) rfl ?_
  refine Y (Yields.load_ptr_field (j := 0) kd9 rfl rfl rfl rfl rfl rfl rfl) rfl ?_
  refine Y (Yields.len_str Tryd.underlying9 rfl) rfl ?_
  refine Y (bn rfl rfl (BinR.subI (by omega) (by omega)) rfl) rfl ?_
  refine Y (ass rfl) rfl ?_
  refine AOps.nil ?_
  refine AWP.seq ?_
  refine AWP.seq ?_
  refine AWP.region ?_
  refine Y (mv rfl) rfl ?_
  refine Y (bn rfl rfl BinR.lss rfl) rfl ?_
  refine AOps.nil ?_
  refine AWP.condT rfl (fun g => ?_) (fun g => ?_)
  ·
   replace g := of_decide_eq_true g
   refine AWP.seq ?_
   refine AWP.region ?_
   refine Y (ass rfl) rfl ?_
   refine AOps.nil ?_
   refine AWP.ret ⟨.inl rfl, ?_⟩
   exact RetIs.oneV rfl rfl (by (rfl) <;> rfl)
  ·
   replace g := of_decide_eq_false g
   omega
theorem szVs_ofExpr (ks : List Tr) (left : Int) (hv : ∀ k ∈ ks, ∀ left : Int, k.bnd 9223372036854775807 → 0 ≤ left → left ≤ 1000000 → Fn 6 [k.av, .val (.int .i64 left)] (.val (.int .i64 (szV k left))))
    (hk : Tr.bnds 9223372036854775807 ks) (hl : ks.length ≤ 9223372036854775807) (h0 : 0 ≤ left) (h1 : left ≤ 1000000) :
    Fn 21 [.ro 4 (Tr.avs ks) [] false, .val (.int .i64 left)] (.val (.int .i64 (szVs ks left))) := by
  have hlen := Tr.avs_length ks
  refine AF.intro Tryd.func21 nm21 rfl rfl rfl rfl fun w0 ok0 => ?_
  refine AWP.seq ?_
  refine AWP.region ?_
  refine Y (ass rfl) rfl ?_
  refine AOps.nil ?_
  refine AWP.seq ?_
  refine AWP.region ?_
  refine Y (mv rfl) rfl ?_
  refine Y (mv rfl) rfl ?_
  refine Y (Yields.len_ro sl22 rfl) rfl ?_
  refine Y (bn rfl rfl (BinR.subI (by omega) (by omega)) rfl) rfl ?_
  refine Y (ass rfl) rfl ?_
  refine AOps.nil ?_
  refine AWP.seq ?_
  refine AWP.seq ?_
  refine AWP.region ?_
  refine Y (mv rfl) rfl ?_
  refine Y (bn rfl rfl BinR.lss rfl) rfl ?_
  refine AOps.nil ?_
  refine AWP.condT rfl (fun h => ?_) (fun h => ?_)
  ·
   replace h := of_decide_eq_true h
   refine AWP.seq ?_
   refine AWP.region ?_
   refine Y (ass rfl) rfl ?_
   refine AOps.nil ?_
   refine AWP.ret ⟨.inl rfl, ?_⟩
   exact RetIs.oneV rfl rfl (by (rw [szVs, if_pos (by omega)]) <;> rfl)
  ·
   replace h := of_decide_eq_false h
   refine AWP.skip ?_
   refine AWP.seq ?_
   refine AWP.seq ?_
   refine AWP.region ?_
   refine Y (ass rfl) rfl ?_
   refine AOps.nil ?_
   refine AWP.block ?_
   refine AWP.loopV (α := Nat × Int) (fun pp : Nat × Int => match pp with | (i, acc) => ⟨[(0, .ro 4 (Tr.avs ks) [] false), (1, .val (.int .i64 acc)), (5, .val (.int .i64 i))], []⟩) (fun pp : Nat × Int => match pp with | (i, acc) => i ≤ ks.length ∧ 0 ≤ acc ∧ acc ≤ 1000000 ∧ szL (ks.drop i) acc = szVs ks left) (fun pp : Nat × Int => match pp with | (i, acc) => ks.length - i) ((0, left - (Tr.avs ks).length)) ?_ ?_ ?_
   · exact Leads.rows 0 ⟨rfl, rfl, rfl, trivial⟩
   ·
    show 0 ≤ ks.length ∧ 0 ≤ (left - (Tr.avs ks).length) ∧ (left - (Tr.avs ks).length) ≤ 1000000 ∧ szL (ks.drop 0) (left - (Tr.avs ks).length) = szVs ks left
    refine ⟨Nat.zero_le _, by omega, by omega, ?_⟩
    rw [szVs, if_neg (by omega), hlen]; rfl
   ·
    rintro ⟨i, acc⟩ hinv
    replace hinv : i ≤ ks.length ∧ 0 ≤ acc ∧ acc ≤ 1000000 ∧ szL (ks.drop i) acc = szVs ks left := hinv
    show AWP _ _ _ _ ⟨[(0, .ro 4 (Tr.avs ks) [] false), (1, .val (.int .i64 acc)), (5, .val (.int .i64 i))], []⟩
    refine AWP.seq ?_
    refine AWP.seq ?_
    refine AWP.region ?_
    obtain ⟨hi, ha0, ha1, hacc⟩ := hinv
    refine Y (mv rfl) rfl ?_
    refine Y (mv rfl) rfl ?_
    refine Y (Yields.len_ro sl22 rfl) rfl ?_
    refine Y (bn rfl rfl BinR.lss rfl) rfl ?_
    refine AOps.nil ?_
    refine AWP.condT rfl (fun g => ?_) (fun g => ?_)
    ·
     replace g := of_decide_eq_true g
     have hlt : i < ks.length := by omega
     obtain ⟨k, hk1, hd⟩ := drop_at hlt
     refine AWP.skip ?_
     refine AWP.seq ?_
     refine AWP.block ?_
     refine AWP.seq ?_
     refine AWP.region ?_
     refine Y (mv rfl) rfl ?_
     refine Y (mv rfl) rfl ?_
     refine Y (Yields.idx_roN sl22 rfl rfl rfl rfl (by omega)) rfl ?_
     refine Y (Yields.load_rop_aggV kd24 rfl (Tr.avs_at hk1) (Tr.av_agg k)) rfl ?_
     refine Y (mv rfl) rfl ?_
     refine AOps.callro (hv k (List.mem_of_getElem? hk1) acc (Tr.bnds_get hk hk1) ha0 ha1) rfl rfl rfl ?_
     have hle := szV_le k acc ha0
     rw [hd, szL] at hacc
     refine Y (ass rfl) rfl ?_
     refine AOps.nil ?_
     refine AWP.seq ?_
     refine AWP.region ?_
     refine Y (mv rfl) rfl ?_
     refine Y (bn rfl rfl BinR.lss rfl) rfl ?_
     refine AOps.nil ?_
     refine AWP.condT rfl (fun g2 => ?_) (fun g2 => ?_)
     ·
      replace g2 := of_decide_eq_true g2
      refine AWP.seq ?_
      refine AWP.region ?_
      refine Y (ass rfl) rfl ?_
      refine AOps.nil ?_
      refine AWP.ret ⟨.inl rfl, ?_⟩
      exact RetIs.oneV rfl rfl (by (rw [← hacc, if_pos g2]) <;> rfl)
     ·
      replace g2 := of_decide_eq_false g2
      refine AWP.skip ?_
      refine AWP.region ?_
      refine Y (mv rfl) rfl ?_
      refine Y (bn rfl rfl (BinR.addI (by omega) (by omega)) rfl) rfl ?_
      refine Y (ass rfl) rfl ?_
      refine AOps.nil ?_
      refine ⟨(i + 1, szV k acc), ?_, ?_, ?_⟩
      ·
       show ks.length - (i + 1) < ks.length - i
       omega
      ·
       show (i + 1) ≤ ks.length ∧ 0 ≤ (szV k acc) ∧ (szV k acc) ≤ 1000000 ∧ szL (ks.drop (i + 1)) (szV k acc) = szVs ks left
       exact ⟨by omega, by omega, by omega, by rw [← hacc, if_neg g2]⟩
      · exact Leads.rows 0 ⟨rfl, rfl, rfl, trivial⟩
    ·
     replace g := of_decide_eq_false g
     rw [List.drop_eq_nil_of_le (by omega), szL] at hacc
     refine AWP.exit ?_
     refine AWP.seq ?_
     refine AWP.region ?_
     refine Y (mv rfl) rfl ?_
     refine Y (ass rfl) rfl ?_
     refine AOps.nil ?_
     refine AWP.ret ⟨.inl rfl, ?_⟩
     exact RetIs.oneV rfl rfl (by (rw [hacc]) <;> rfl)

theorem szV_AFExpr (k : Tr) : ∀ (left : Int), k.bnd 9223372036854775807 → 0 ≤ left → left ≤ 1000000 → Fn 6 [k.av, .val (.int .i64 left)] (.val (.int .i64 (szV k left))) := by
  induction k using Tr.ind
  rename_i kd nm t ks ih
  intro left hk h0 h1
  simp only [Tr.bnd] at hk
  obtain ⟨hk1, hk2, hk3⟩ := hk
  refine AF.intro Tryd.func6 nm6 rfl rfl rfl rfl fun w0 ok0 => ?_
  refine AWP.seq ?_
  refine AWP.region ?_
  refine AOps.box rfl rfl rfl rfl fun b1 => ?_
  refine Y (ass rfl) rfl ?_
  refine AOps.nil ?_
  refine AWP.seq ?_
  refine AWP.region ?_
  refine Y (mv rfl) rfl ?_
  refine Y (Yields.fieldAddr_ptr fo24_2 rfl) rfl ?_
  refine Y (Yields.load_ptr_field (j := 0) kd9 rfl rfl rfl rfl rfl rfl rfl) rfl ?_
  refine Y (Yields.len_str Tryd.underlying9 rfl) rfl ?_
  refine Y (bn rfl rfl (BinR.subI (by omega) (by omega)) rfl) rfl ?_
  refine Y (ass rfl) rfl ?_
  refine AOps.nil ?_
  refine AWP.seq ?_
  refine AWP.seq ?_
  refine AWP.region ?_
  refine Y (mv rfl) rfl ?_
  refine Y (bn rfl rfl BinR.lss rfl) rfl ?_
  refine AOps.nil ?_
  refine AWP.condT rfl (fun h => ?_) (fun h => ?_)
  ·
   replace h := of_decide_eq_true h
   refine AWP.seq ?_
   refine AWP.region ?_
   refine Y (ass rfl) rfl ?_
   refine AOps.nil ?_
   refine AWP.ret ⟨.inl rfl, ?_⟩
   exact RetIs.oneV rfl rfl (by (rw [szV_eq, if_pos h]) <;> rfl)
  ·
   replace h := of_decide_eq_false h
   refine AWP.skip ?_
   refine AWP.seq ?_
   refine AWP.region ?_
   refine Y (Yields.fieldAddr_ptr fo24_3 rfl) rfl ?_
   refine Y (Yields.load_ptr_field (j := 0) kd22 rfl rfl rfl rfl rfl rfl rfl) rfl ?_
   refine Y (mv rfl) rfl ?_
   refine AOps.callro (szVs_ofExpr ks (left - t.size) ih hk3 hk2 (by omega) (by omega)) rfl rfl rfl ?_
   refine Y (ass rfl) rfl ?_
   refine AOps.nil ?_
   refine AWP.seq ?_
   refine AWP.seq ?_
   refine AWP.region ?_
   refine Y (mv rfl) rfl ?_
   refine Y (bn rfl rfl BinR.lss rfl) rfl ?_
   refine AOps.nil ?_
   refine AWP.condT rfl (fun g => ?_) (fun g => ?_)
   ·
    replace g := of_decide_eq_true g
    refine AWP.seq ?_
    refine AWP.region ?_
    refine Y (ass rfl) rfl ?_
    refine AOps.nil ?_
    refine AWP.ret ⟨.inl rfl, ?_⟩
    exact RetIs.oneV rfl rfl (by (rw [szV_eq, if_neg h, szVs_neg g]) <;> rfl)
   ·
    replace g := of_decide_eq_false g
    refine AWP.skip ?_
    refine AWP.seq ?_
    refine AWP.region ?_
    refine Y (mv rfl) rfl ?_
    refine Y (ass rfl) rfl ?_
    refine AOps.nil ?_
    refine AWP.ret ⟨.inl rfl, ?_⟩
    exact RetIs.oneV rfl rfl (by (rw [szV_eq, if_neg h]) <;> rfl)
theorem szVs_AFExpr (ks : List Tr) (left : Int) (hk : Tr.bnds 9223372036854775807 ks) (hl : ks.length ≤ 9223372036854775807) (h0 : 0 ≤ left) (h1 : left ≤ 1000000) :
    Fn 21 [.ro 4 (Tr.avs ks) [] false, .val (.int .i64 left)] (.val (.int .i64 (szVs ks left))) :=
  szVs_ofExpr ks left (fun k _ => szV_AFExpr k) hk hl h0 h1
theorem szV_lessExpr (k : Tr) (left : Int) (hk : k.bnd 9223372036854775807) (h : left < 0) (h2 : -30000000000000000000 ≤ left) (h3 : -9223372036854775808 ≤ left - k.text.size) : Fn 6 [k.av, .val (.int .i64 left)] (.val (.int .i64 (-1))) := by
  obtain ⟨kd, nm, t, ks⟩ := k
  simp only [Tr.bnd] at hk
  obtain ⟨hk1, hk2, hk3⟩ := hk
  simp only [Tr.text] at h3
  refine AF.intro Tryd.func6 nm6 rfl rfl rfl rfl fun w0 ok0 => ?_
  refine AWP.seq ?_
  refine AWP.region ?_
  refine AOps.box rfl rfl rfl rfl fun b1 => ?_
  refine Y (ass rfl) rfl ?_
  refine AOps.nil ?_
  refine AWP.seq ?_
  refine AWP.region ?_
  refine Y (mv rfl) rfl ?_
  refine Y (Yields.fieldAddr_ptr fo24_2 rfl) rfl ?_
  refine Y (Yields.load_ptr_field (j := 0) kd9 rfl rfl rfl rfl rfl rfl rfl) rfl ?_
  refine Y (Yields.len_str Tryd.underlying9 rfl) rfl ?_
  refine Y (bn rfl rfl (BinR.subI (by omega) (by omega)) rfl) rfl ?_
  refine Y (ass rfl) rfl ?_
  refine AOps.nil ?_
  refine AWP.seq ?_
  refine AWP.seq ?_
  refine AWP.region ?_
  refine Y (mv rfl) rfl ?_
  refine Y (bn rfl rfl BinR.lss rfl) rfl ?_
  refine AOps.nil ?_
  refine AWP.condT rfl (fun g => ?_) (fun g => ?_)
  ·
   replace g := of_decide_eq_true g
   refine AWP.seq ?_
   refine AWP.region ?_
   refine Y (ass rfl) rfl ?_
   refine AOps.nil ?_
   refine AWP.ret ⟨.inl rfl, ?_⟩
   exact RetIs.oneV rfl rfl (by (rfl) <;> rfl)
  ·
   replace g := of_decide_eq_false g
   omega
end Go.Proofs.YtccdgppplkfjfaaDoor
