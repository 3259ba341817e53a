/- The laws on types. -/
import Derived.Test.YtnmodhbchfkfbaaElaw
import Derived.Test.YtnmodhbchfkfbaaSrc
namespace Go.Proofs.Ytnmodhbchfkfbaa
open Go Go.Ax Go.Proofs
set_option linter.unusedVariables false
set_option linter.unusedSimpArgs false
set_option maxRecDepth 20000
theorem listT_data (s : ByteArray) : (listT s).data.toList = 91 :: (s.data.toList ++ [93]) := by
  rw [listT, data_append, data_append]; rfl
theorem itemOf_list {s : ByteArray} (h : isItem (listT s) = true) : itemOf (listT s) = s := by
  rw [itemOf, if_pos h]
  refine bytes_ext ?_
  rw [data_extract, listT_data, listT_size]
  have := data_length s
  simp only [List.drop_succ_cons, List.drop_zero]
  rw [show s.size + 2 - 1 - 1 = s.data.toList.length by omega, List.take_left]
theorem isItem_list {s : ByteArray} (h : isListT s = true) : isItem (listT s) = true := by
  simp only [isListT, Bool.and_eq_true] at h
  rw [isItem, h.2, listT_data]; rfl
theorem list_item {s : ByteArray} (h : isItem s = true) : listT (itemOf s) = s := by
  have h0 := h
  simp only [isItem, Bool.and_eq_true, beq_iff_eq] at h
  obtain ⟨h1, h2⟩ := h
  have hb := typeOk_open h1 h2 rfl
  have hlen := inner_length hb
  simp only [brB, Bool.and_eq_true, decide_eq_true_eq, beq_iff_eq] at hb
  obtain ⟨⟨h3, _⟩, h4⟩ := hb
  refine bytes_ext ?_
  rw [listT_data, itemOf, if_pos h0, data_extract]
  have hd := data_length s
  generalize s.data.toList = l at *
  match l, h2 with
  | c :: l, h2 =>
    simp at h2; subst h2
    simp only [List.length_cons] at h3 h4 hd
    simp only [List.drop_succ_cons, List.drop_zero]
    rw [show l.length + 1 - 1 = l.length by omega] at h4
    have hl : 0 < l.length := by omega
    have e : l = l.take (l.length - 1) ++ [93] := by
      conv => lhs; rw [← List.take_append_drop (l.length - 1) l]
      congr 1
      rw [List.drop_eq_getElem_cons (by omega), List.drop_eq_nil_of_le (by omega)]
      have h5 : (91 :: l)[l.length]? = l[l.length - 1]? := by
        have : l.length = (l.length - 1) + 1 := by omega
        conv => lhs; rw [this, List.getElem?_cons_succ]
      rw [h5, List.getElem?_eq_getElem (by omega)] at h4
      rw [Option.some.inj h4]
    rw [show s.size - 1 - 1 = l.length - 1 by omega]
    exact congrArg (List.cons 91) e.symm
theorem isListT_item {s : ByteArray} (h : isItem s = true) : isListT (itemOf s) = true := by
  have h1 := list_item h
  have h2 : typeOkL s.data.toList = true := by simp only [isItem, Bool.and_eq_true] at h; exact h.1
  rw [isListT, h1, h2, Bool.and_true]
  exact typeOk_of_list _ (by rw [h1]; exact h2)
theorem itemOf_size (s : ByteArray) : (itemOf s).size ≤ s.size := by
  unfold itemOf
  split
  · simp; omega
  · exact Nat.zero_le _

theorem lawTypeOk (code : List UInt8) : Fn 3 [.ro 1 (bytesV code) [] false] (bool true) := by
  have hl := bytesV_length code
  refine AF.intro Try.func3 nm3 rfl rfl rfl rfl fun w0 ok0 => ?_
  refine AWP.seq ?_
  refine AWP.region ?_
  refine Y (ass rfl) rfl ?_
  refine AOps.nil ?_
  refine AWP.seq ?_
  refine AWP.seq ?_
  refine AWP.region ?_
  refine Y (mv rfl) rfl ?_
  refine Y (Yields.len_ro sl22 rfl) rfl ?_
  refine Y (bn rfl rfl BinR.gtr rfl) rfl ?_
  refine AOps.nil ?_
  refine AWP.condT rfl (fun h => ?_) (fun h => ?_)
  · replace h := of_decide_eq_true h
    refine AWP.seq ?_
    refine AWP.region ?_
    refine Y (ass rfl) rfl ?_
    refine AOps.nil ?_
    refine AWP.ret ⟨.inl rfl, ?_⟩
    exact RetIs.oneV rfl rfl (by (rfl) <;> rfl)
  · replace h := of_decide_eq_false h
    refine AWP.skip ?_
    refine AWP.seq ?_
    refine AWP.region ?_
    refine Y (mv rfl) rfl ?_
    refine AOps.callH (.inr rfl) (drawType_AH code (by omega)) rfl rfl rfl (WkL.refl _) ?_
    rintro _ _ ⟨s, hs, rfl, rfl⟩
    have hls := listT_size s
    refine Y (ass rfl) rfl ?_
    refine AOps.nil ?_
    refine AWP.seq ?_
    refine AWP.region ?_
    refine Y (mv rfl) rfl ?_
    refine AOps.callro (iTypeOk_AF s (by omega)) rfl rfl rfl ?_
    refine Y (ass rfl) rfl ?_
    refine AOps.nil ?_
    refine AWP.seq ?_
    refine AWP.region ?_
    refine Y (mv rfl) rfl ?_
    refine AOps.callro (sTypeOk_AF s (by omega)) rfl rfl rfl ?_
    refine Y (ass rfl) rfl ?_
    refine AOps.nil ?_
    refine AWP.seq ?_
    refine AWP.region ?_
    refine Y (mv rfl) rfl ?_
    refine Y (mv rfl) rfl ?_
    refine Y (bn rfl rfl (BinR.beql Try.underlying4) rfl) rfl ?_
    refine Y (ass rfl) rfl ?_
    refine AOps.nil ?_
    refine AWP.seq ?_
    refine AWP.seq ?_
    refine AWP.region ?_
    refine Y (mv rfl) rfl ?_
    refine Y (Yields.not rfl) rfl ?_
    refine Y (mv rfl) rfl ?_
    refine AOps.split 23 rfl (fun g1 => ?_) (fun g1 => ?_)
    · skip
      simp at g1
    · skip
      refine AOps.on rfl rfl ?_
      refine Y (mv rfl) rfl ?_
      refine AOps.on rfl rfl ?_
      refine Y (Yields.not rfl) rfl ?_
      refine Y (Yields.pick_false rfl rfl) rfl ?_
      refine AOps.nil ?_
      refine AWP.condT rfl (fun g2 => ?_) (fun g2 => ?_)
      · skip
        refine AWP.seq ?_
        refine AWP.region ?_
        refine Y (mv rfl) rfl ?_
        refine Y (ass rfl) rfl ?_
        refine AOps.nil ?_
        refine AWP.ret ⟨.inl rfl, ?_⟩
        exact RetIs.oneV rfl rfl (by (simp) <;> rfl)
      · skip
        have g2 : typeOkL s.data.toList = true := by simpa using g2
        refine AWP.skip ?_
        refine AWP.seq ?_
        refine AWP.region ?_
        refine Y (mv rfl) rfl ?_
        refine AOps.callro (iTypeList_AF s (by omega)) rfl rfl rfl ?_
        refine Y (mv rfl) rfl ?_
        refine Y (Yields.extract rfl rfl) rfl ?_
        refine Y (Yields.extract rfl rfl) rfl ?_
        refine Y (ass rfl) rfl ?_
        refine Y (ass rfl) rfl ?_
        refine AOps.nil ?_
        refine AWP.seq ?_
        refine AWP.region ?_
        refine Y (mv rfl) rfl ?_
        refine Y (mv rfl) rfl ?_
        refine Y (bn rfl rfl (BinR.sadd (by exact add1 (by omega))) rfl) rfl ?_
        refine Y (bn rfl rfl (BinR.sadd (by exact add2 (by omega))) rfl) rfl ?_
        refine AOps.callro (iTypeOk_AF (listT s) (by omega)) rfl rfl rfl ?_
        refine Y (bn rfl rfl (BinR.beql Try.underlying4) rfl) rfl ?_
        refine Y (mv rfl) rfl ?_
        refine AOps.split 39 rfl (fun g3 => ?_) (fun g3 => ?_)
        · skip
          refine AOps.on rfl rfl ?_
          refine Y (mv rfl) rfl ?_
          refine AOps.on rfl rfl ?_
          refine Y (Yields.not rfl) rfl ?_
          refine AOps.on rfl rfl ?_
          refine Y (mv rfl) rfl ?_
          refine AOps.split 42 rfl (fun g4 => ?_) (fun g4 => ?_)
          · skip
            refine AOps.off' rfl rfl rfl rfl ?_
            refine AOps.off' rfl rfl rfl rfl ?_
            refine AOps.off' rfl rfl rfl rfl ?_
            refine AOps.off' rfl rfl rfl rfl ?_
            refine AOps.off' rfl rfl rfl rfl ?_
            refine AOps.on rfl rfl ?_
            refine Y (Yields.pick_true rfl rfl) rfl ?_
            refine Y (Yields.pick_true rfl rfl) rfl ?_
            refine Y (ass rfl) rfl ?_
            refine AOps.nil ?_
            refine AWP.ret ⟨.inl rfl, ?_⟩
            exact RetIs.oneV rfl rfl (by (rfl) <;> rfl)
          · skip
            have g4 : isListT s = true := by simpa using g4
            refine AOps.on rfl rfl ?_
            refine Y (mv rfl) rfl ?_
            refine AOps.on rfl rfl ?_
            refine Y (mv rfl) rfl ?_
            refine AOps.on rfl rfl ?_
            refine Y (bn rfl rfl (BinR.sadd (by exact add1 (by omega))) rfl) rfl ?_
            refine AOps.on rfl rfl ?_
            refine Y (bn rfl rfl (BinR.sadd (by exact add2 (by omega))) rfl) rfl ?_
            refine AOps.on rfl rfl ?_
            refine Y (bn rfl rfl BinR.seql rfl) rfl ?_
            refine AOps.on rfl rfl ?_
            refine Y (Yields.pick_false rfl rfl) rfl ?_
            refine Y (Yields.pick_true rfl rfl) rfl ?_
            refine Y (ass rfl) rfl ?_
            refine AOps.nil ?_
            refine AWP.ret ⟨.inl rfl, ?_⟩
            exact RetIs.oneV rfl rfl (by (rw [listOf, if_pos g4, listT]; simp) <;> rfl)
        · skip
          exfalso
          simp [isListT, g2] at g3
theorem lawTypeList (code : List UInt8) : Fn 5 [.ro 1 (bytesV code) [] false] (bool true) := by
  have hl := bytesV_length code
  refine AF.intro Try.func5 nm5 rfl rfl rfl rfl fun w0 ok0 => ?_
  refine AWP.seq ?_
  refine AWP.region ?_
  refine Y (ass rfl) rfl ?_
  refine AOps.nil ?_
  refine AWP.seq ?_
  refine AWP.seq ?_
  refine AWP.region ?_
  refine Y (mv rfl) rfl ?_
  refine Y (Yields.len_ro sl22 rfl) rfl ?_
  refine Y (bn rfl rfl BinR.gtr rfl) rfl ?_
  refine AOps.nil ?_
  refine AWP.condT rfl (fun h => ?_) (fun h => ?_)
  · replace h := of_decide_eq_true h
    refine AWP.seq ?_
    refine AWP.region ?_
    refine Y (ass rfl) rfl ?_
    refine AOps.nil ?_
    refine AWP.ret ⟨.inl rfl, ?_⟩
    exact RetIs.oneV rfl rfl (by (rfl) <;> rfl)
  · replace h := of_decide_eq_false h
    refine AWP.skip ?_
    refine AWP.seq ?_
    refine AWP.region ?_
    refine Y (mv rfl) rfl ?_
    refine AOps.callH (.inr rfl) (drawTypeList_AH code (by omega)) rfl rfl rfl (WkL.refl _) ?_
    rintro _ _ ⟨s, hs, rfl, rfl⟩
    have hls := listT_size s
    refine Y (ass rfl) rfl ?_
    refine AOps.nil ?_
    refine AWP.seq ?_
    refine AWP.region ?_
    refine Y (mv rfl) rfl ?_
    refine AOps.callro (iTypeList_AF s (by omega)) rfl rfl rfl ?_
    refine Y (mv rfl) rfl ?_
    refine Y (Yields.extract rfl rfl) rfl ?_
    refine Y (Yields.extract rfl rfl) rfl ?_
    refine Y (ass rfl) rfl ?_
    refine Y (ass rfl) rfl ?_
    refine AOps.nil ?_
    refine AWP.seq ?_
    refine AWP.region ?_
    refine Y (mv rfl) rfl ?_
    refine AOps.callro (sTypeList_AF s (by omega)) rfl rfl rfl ?_
    refine Y (mv rfl) rfl ?_
    refine Y (Yields.extract rfl rfl) rfl ?_
    refine Y (Yields.extract rfl rfl) rfl ?_
    refine Y (ass rfl) rfl ?_
    refine Y (ass rfl) rfl ?_
    refine AOps.nil ?_
    refine AWP.seq ?_
    refine AWP.region ?_
    refine Y (mv rfl) rfl ?_
    refine Y (mv rfl) rfl ?_
    refine Y (bn rfl rfl BinR.seql rfl) rfl ?_
    refine Y (mv rfl) rfl ?_
    refine AOps.split 29 rfl (fun g0 => ?_) (fun g0 => ?_)
    · replace g0 := of_decide_eq_true g0
      refine AOps.on rfl rfl ?_
      refine Y (mv rfl) rfl ?_
      refine AOps.on rfl rfl ?_
      refine Y (mv rfl) rfl ?_
      refine AOps.on rfl rfl ?_
      refine Y (bn rfl rfl (BinR.beql Try.underlying4) rfl) rfl ?_
      refine Y (Yields.pick_true rfl rfl) rfl ?_
      refine Y (ass rfl) rfl ?_
      refine AOps.nil ?_
      refine AWP.seq ?_
      refine AWP.seq ?_
      refine AWP.region ?_
      refine Y (mv rfl) rfl ?_
      refine Y (Yields.not rfl) rfl ?_
      refine Y (mv rfl) rfl ?_
      refine AOps.split 36 rfl (fun g1 => ?_) (fun g1 => ?_)
      · skip
        simp at g1
      · skip
        refine AOps.on rfl rfl ?_
        refine Y (mv rfl) rfl ?_
        refine AOps.on rfl rfl ?_
        refine Y (Yields.not rfl) rfl ?_
        refine Y (Yields.pick_false rfl rfl) rfl ?_
        refine AOps.nil ?_
        refine AWP.condT rfl (fun g2 => ?_) (fun g2 => ?_)
        · skip
          refine AWP.seq ?_
          refine AWP.region ?_
          refine Y (mv rfl) rfl ?_
          refine Y (ass rfl) rfl ?_
          refine AOps.nil ?_
          refine AWP.ret ⟨.inl rfl, ?_⟩
          exact RetIs.oneV rfl rfl (by (simp) <;> rfl)
        · skip
          have g2 : isListT s = true := by simpa using g2
          have hlo : listOf s = listT s := if_pos g2
          refine AWP.skip ?_
          refine AWP.seq ?_
          refine AWP.region ?_
          refine Y (mv rfl) rfl ?_
          refine AOps.callro (iTypeItem_AF (listOf s) (by rw [hlo]; omega)) rfl rfl rfl ?_
          have hit := isItem_list g2
          refine Y (mv rfl) rfl ?_
          refine Y (Yields.extract rfl rfl) rfl ?_
          refine Y (Yields.extract rfl rfl) rfl ?_
          refine Y (ass rfl) rfl ?_
          refine Y (ass rfl) rfl ?_
          refine AOps.nil ?_
          refine AWP.seq ?_
          refine AWP.region ?_
          refine Y (mv rfl) rfl ?_
          refine Y (mv rfl) rfl ?_
          refine AOps.split 47 rfl (fun g3 => ?_) (fun g3 => ?_)
          · skip
            refine AOps.on rfl rfl ?_
            refine Y (mv rfl) rfl ?_
            refine AOps.on rfl rfl ?_
            refine Y (mv rfl) rfl ?_
            refine AOps.on rfl rfl ?_
            refine Y (bn rfl rfl BinR.seql rfl) rfl ?_
            refine Y (Yields.pick_true rfl rfl) rfl ?_
            refine Y (ass rfl) rfl ?_
            refine AOps.nil ?_
            refine AWP.ret ⟨.inl rfl, ?_⟩
            exact RetIs.oneV rfl rfl (by (rw [hlo, itemOf_list hit]; simp) <;> rfl)
          · skip
            rw [hlo, hit] at g3; cases g3
    · replace g0 := of_decide_eq_false g0
      exact absurd rfl g0
theorem lawTypeItem (code : List UInt8) : Fn 4 [.ro 1 (bytesV code) [] false] (bool true) := by
  have hl := bytesV_length code
  refine AF.intro Try.func4 nm4 rfl rfl rfl rfl fun w0 ok0 => ?_
  refine AWP.seq ?_
  refine AWP.region ?_
  refine Y (ass rfl) rfl ?_
  refine AOps.nil ?_
  refine AWP.seq ?_
  refine AWP.seq ?_
  refine AWP.region ?_
  refine Y (mv rfl) rfl ?_
  refine Y (Yields.len_ro sl22 rfl) rfl ?_
  refine Y (bn rfl rfl BinR.gtr rfl) rfl ?_
  refine AOps.nil ?_
  refine AWP.condT rfl (fun h => ?_) (fun h => ?_)
  · replace h := of_decide_eq_true h
    refine AWP.seq ?_
    refine AWP.region ?_
    refine Y (ass rfl) rfl ?_
    refine AOps.nil ?_
    refine AWP.ret ⟨.inl rfl, ?_⟩
    exact RetIs.oneV rfl rfl (by (rfl) <;> rfl)
  · replace h := of_decide_eq_false h
    refine AWP.skip ?_
    refine AWP.seq ?_
    refine AWP.region ?_
    refine Y (mv rfl) rfl ?_
    refine AOps.callH (.inr rfl) (drawTypeItem_AH code (by omega)) rfl rfl rfl (WkL.refl _) ?_
    rintro _ _ ⟨s, hs, rfl, rfl⟩
    have hls := itemOf_size s
    refine Y (ass rfl) rfl ?_
    refine AOps.nil ?_
    refine AWP.seq ?_
    refine AWP.region ?_
    refine Y (mv rfl) rfl ?_
    refine AOps.callro (iTypeItem_AF s (by omega)) rfl rfl rfl ?_
    refine Y (mv rfl) rfl ?_
    refine Y (Yields.extract rfl rfl) rfl ?_
    refine Y (Yields.extract rfl rfl) rfl ?_
    refine Y (ass rfl) rfl ?_
    refine Y (ass rfl) rfl ?_
    refine AOps.nil ?_
    refine AWP.seq ?_
    refine AWP.region ?_
    refine Y (mv rfl) rfl ?_
    refine AOps.callro (sTypeItem_AF s (by omega)) rfl rfl rfl ?_
    refine Y (mv rfl) rfl ?_
    refine Y (Yields.extract rfl rfl) rfl ?_
    refine Y (Yields.extract rfl rfl) rfl ?_
    refine Y (ass rfl) rfl ?_
    refine Y (ass rfl) rfl ?_
    refine AOps.nil ?_
    refine AWP.seq ?_
    refine AWP.region ?_
    refine Y (mv rfl) rfl ?_
    refine Y (mv rfl) rfl ?_
    refine Y (bn rfl rfl BinR.seql rfl) rfl ?_
    refine Y (mv rfl) rfl ?_
    refine AOps.split 29 rfl (fun g0 => ?_) (fun g0 => ?_)
    · replace g0 := of_decide_eq_true g0
      refine AOps.on rfl rfl ?_
      refine Y (mv rfl) rfl ?_
      refine AOps.on rfl rfl ?_
      refine Y (mv rfl) rfl ?_
      refine AOps.on rfl rfl ?_
      refine Y (bn rfl rfl (BinR.beql Try.underlying4) rfl) rfl ?_
      refine Y (Yields.pick_true rfl rfl) rfl ?_
      refine Y (ass rfl) rfl ?_
      refine AOps.nil ?_
      refine AWP.seq ?_
      refine AWP.seq ?_
      refine AWP.region ?_
      refine Y (mv rfl) rfl ?_
      refine Y (Yields.not rfl) rfl ?_
      refine Y (mv rfl) rfl ?_
      refine AOps.split 36 rfl (fun g1 => ?_) (fun g1 => ?_)
      · skip
        simp at g1
      · skip
        refine AOps.on rfl rfl ?_
        refine Y (mv rfl) rfl ?_
        refine AOps.on rfl rfl ?_
        refine Y (Yields.not rfl) rfl ?_
        refine Y (Yields.pick_false rfl rfl) rfl ?_
        refine AOps.nil ?_
        refine AWP.condT rfl (fun g2 => ?_) (fun g2 => ?_)
        · skip
          refine AWP.seq ?_
          refine AWP.region ?_
          refine Y (mv rfl) rfl ?_
          refine Y (ass rfl) rfl ?_
          refine AOps.nil ?_
          refine AWP.ret ⟨.inl rfl, ?_⟩
          exact RetIs.oneV rfl rfl (by (simp) <;> rfl)
        · skip
          have g2 : isItem s = true := by simpa using g2
          have hit := isListT_item g2
          refine AWP.skip ?_
          refine AWP.seq ?_
          refine AWP.region ?_
          refine Y (mv rfl) rfl ?_
          refine AOps.callro (iTypeList_AF (itemOf s) (by omega)) rfl rfl rfl ?_
          refine Y (mv rfl) rfl ?_
          refine Y (Yields.extract rfl rfl) rfl ?_
          refine Y (Yields.extract rfl rfl) rfl ?_
          refine Y (ass rfl) rfl ?_
          refine Y (ass rfl) rfl ?_
          refine AOps.nil ?_
          refine AWP.seq ?_
          refine AWP.region ?_
          refine Y (mv rfl) rfl ?_
          refine Y (mv rfl) rfl ?_
          refine AOps.split 47 rfl (fun g3 => ?_) (fun g3 => ?_)
          · skip
            refine AOps.on rfl rfl ?_
            refine Y (mv rfl) rfl ?_
            refine AOps.on rfl rfl ?_
            refine Y (mv rfl) rfl ?_
            refine AOps.on rfl rfl ?_
            refine Y (bn rfl rfl BinR.seql rfl) rfl ?_
            refine Y (Yields.pick_true rfl rfl) rfl ?_
            refine Y (ass rfl) rfl ?_
            refine AOps.nil ?_
            refine AWP.ret ⟨.inl rfl, ?_⟩
            exact RetIs.oneV rfl rfl (by (rw [listOf, if_pos hit, list_item g2]; simp) <;> rfl)
          · skip
            rw [hit] at g3; cases g3
    · replace g0 := of_decide_eq_false g0
      exact absurd rfl g0
end Go.Proofs.Ytnmodhbchfkfbaa
