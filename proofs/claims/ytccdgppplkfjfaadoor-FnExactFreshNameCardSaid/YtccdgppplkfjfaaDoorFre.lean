/- Fresh names: impl's and the reference's. -/
import Derived.Test.YtccdgppplkfjfaaDoorNms
import Derived.Shelf.Strings.SlTrimAscii
import Derived.Lib.ItoaNum
import Derived.Below
namespace Go.Proofs.YtccdgppplkfjfaaDoor
open Go Go.Ax Go.Proofs
set_option linter.unusedVariables false
set_option linter.unusedSimpArgs false
set_option maxRecDepth 20000
theorem blkAt_lt {w : World} {b m : Nat} {cells : List Value} (h : BlkAt w b cells m) : b < w.heap.size := by
  obtain ⟨cs, t, h1, _⟩ := h
  rcases Nat.lt_or_ge b w.heap.size with q | q
  · exact q
  · rw [Array.getElem?_eq_none q] at h1; cases h1
theorem ofBelow {P : Program} {g : GL} {f : FuncId} {fn : Func} (hf : P.funcs[f]? = some fn) (hb : fn.body.isNone = false) (hname : (fn.name == "runtime.NumGoroutine") = false) (ps : List Value) (r : Value) (hr : r.oneCell' = true)
    (h : ∀ w, g.holds w → Calls P f ps.toArray w fun e w' => e = .returned r ∧ Go.RowKit.Below w.heap.size w w') : AF P g f (ps.map .val) (.val r) (noOuts (ps.map .val)) := by
  refine ⟨⟨fn, hf, hb, hname⟩, fun w vs F ok hv hF hFo hok hgl hlow => ?_⟩
  have hlen := repT_length hv
  obtain ⟨rfl, rfl⟩ := repT_valsInv hv
  refine (h w hgl).mono ?_
  rintro e w' ⟨rfl, bel⟩
  exact ⟨r, [], [], ok, rfl, repV_val _ _ _ hr, repT_undef _ _ hlen, by simp, by simp, fun _ h => h, fun b hb => ⟨.inl hb, Nat.lt_of_lt_of_le (hok b hb) bel.size⟩, fun k hk _ => bel.block k hk, bel.size, bel.os, bel.tape, bel.output, fun b m hb => hb.keep (bel.block b (blkAt_lt hb))⟩
def digL : List UInt8 := [48, 49, 50, 51, 52, 53, 54, 55, 56, 57]
theorem digL_has (c : UInt8) : digL.contains c = (decide (48 ≤ c.toNat) && decide (c.toNat ≤ 57)) := by
  have key : ∀ n : Fin 256, digL.contains (UInt8.ofNat n.val) = (decide (48 ≤ n.val) && decide (n.val ≤ 57)) := by decide +kernel
  have := key ⟨c.toNat, c.toNat_lt⟩
  simpa using this
theorem trimR_snoc (l : List UInt8) (c : UInt8) : Lib.trimRightS (l ++ [c]) digL = if digL.contains c = true then Lib.trimRightS l digL else l ++ [c] := by
  unfold Lib.trimRightS
  rw [List.reverse_append, List.reverse_singleton, List.singleton_append, List.dropWhile_cons]
  split
  · rfl
  · simp
theorem trimR_strip : ∀ (n : Nat) (s : ByteArray), s.size = n → Lib.trimRightS s.data.toList digL = (stripB n s).data.toList
  | 0, s, h => by
    have : s.data.toList = [] := List.length_eq_zero_iff.1 (by rw [data_length]; exact h)
    rw [stripB, this]; rfl
  | n + 1, s, h => by
    have hl : s.data.toList.length = n + 1 := by rw [data_length]; exact h
    obtain ⟨c, hc⟩ : ∃ c, s.data.toList[n]? = some c := ⟨_, List.getElem?_eq_getElem (by omega)⟩
    have he : (s.extract 0 (s.size - 1)).size = n := by rw [ByteArray.size_extract]; omega
    have hd : s.data.toList = (s.extract 0 (s.size - 1)).data.toList ++ [c] := by
      rw [data_extract, List.drop_zero, h, show n + 1 - 1 - 0 = n by omega]
      have := List.take_add_one (l := s.data.toList) (i := n)
      rw [hc] at this
      exact (List.take_of_length_le (by omega : s.data.toList.length ≤ n + 1)).symm.trans this
    have hg : digE s = digL.contains c := by rw [digE_of (c := c) (by rw [h]; exact hc), digL_has]
    rw [stripB, hg, hd, trimR_snoc]
    split
    · rw [trimR_strip n _ he]
    · rw [← hd]
theorem trimRight_AF (s : ByteArray) (hs : s.size ≤ 140737488355328) : Fn 65 [str s, str ⟨#[48, 49, 50, 51, 52, 53, 54, 55, 56, 57]⟩] (str (stripB s.size s)) := by
  refine ofBelow Tryd.func65 rfl nm65 [.string s, .string ⟨#[48, 49, 50, 51, 52, 53, 54, 55, 56, 57]⟩] (.string _) rfl fun w _ => ?_
  refine (Any.strings_TrimRight_laid Tryd.lays162 (by kernel_rfl) s ⟨#[48, 49, 50, 51, 52, 53, 54, 55, 56, 57]⟩ w (by omega) (by decide) (ascii_of_all (by decide))).mono fun e w' ⟨he, hw⟩ => ⟨?_, hw⟩
  have h := trimR_strip s.size s rfl
  unfold digL at h
  rw [he, h]
theorem decDigits_small (n : Nat) (h : n < 100) : (⟨(Lib.decDigits n).toArray⟩ : ByteArray) = decB n := by
  by_cases h1 : n < 10
  · rw [Lib.decDigits, dif_pos h1, decB, if_pos h1]; rfl
  · rw [Lib.decDigits, dif_neg h1, Lib.decDigits, dif_pos (by omega), decB, if_neg h1]; rfl
theorem itoa_AF (n : Nat) (h : n < 100) : Fn 48 [int n] (str (decB n)) := by
  refine AF.ofVals Tryd.func48 rfl nm48 [.int .i64 n] (.string _) rfl fun w _ => ?_
  rw [← decDigits_small n h]
  exact Tryd.strconv_Itoa_small n h w
theorem nodup_le {α : Type} [DecidableEq α] : ∀ (a b : List α), a.Nodup → (∀ x ∈ a, x ∈ b) → a.length ≤ b.length
  | [], b, _, _ => Nat.zero_le _
  | x :: a, b, hn, hs => by
    obtain ⟨h1, h2⟩ := List.nodup_cons.1 hn
    have hx : x ∈ b := hs x (by simp)
    have := nodup_le a (b.erase x) h2 fun y hy => (List.mem_erase_of_ne (by rintro rfl; exact h1 hy)).2 (hs y (by simp [hy]))
    rw [List.length_erase_of_mem hx] at this
    have := List.length_pos_of_mem hx
    simp only [List.length_cons]; omega
theorem decB_inj : ∀ i j : Fin 100, (decB i.val).data.toList = (decB j.val).data.toList → i = j := by decide +kernel
theorem stem_inj {s : ByteArray} {i j : Nat} (hi : i < 100) (hj : j < 100) (h : s ++ decB i = s ++ decB j) : i = j := by
  have h2 := congrArg (fun x : ByteArray => x.data.toList) h
  simp only [data_append] at h2
  exact congrArg Fin.val (decB_inj ⟨i, hi⟩ ⟨j, hj⟩ (List.append_cancel_left h2))
theorem taken_le (s : ByteArray) (l : List ByteArray) (n : Nat) (hn : n ≤ 99) (h : ∀ j, 1 ≤ j → j < n → memB l (s ++ decB j) = true) : n ≤ l.length + 1 := by
  have h1 := nodup_le ((List.range' 1 (n - 1)).map fun j => s ++ decB j) l (by
    refine List.pairwise_map.2 (List.Pairwise.imp_of_mem ?_ (List.nodup_range' (s := 1) (n := n - 1) (step := 1)))
    intro i j hi hj hne e
    rw [List.mem_range'_1] at hi hj
    exact hne (stem_inj (by omega) (by omega) e)) (by
    intro x hx
    obtain ⟨j, hj, rfl⟩ := List.mem_map.1 hx
    rw [List.mem_range'_1] at hj
    exact memB_iff.1 (h j (by omega) (by omega)))
  simp at h1
  omega
theorem isName_at {l : List UInt8} (h : isNameL l = true) {i : Nat} {c : UInt8} (hc : l[i]? = some c) : lowB c = true ∨ (i ≠ 0 ∧ digB c = true) := by
  by_cases h1 : lowB c = true
  · exact .inl h1
  · refine .inr ⟨fun e => ?_, ?_⟩
    · rw [isName_bad hc (by simpa using h1) (.inl e)] at h; cases h
    · by_cases h2 : digB c = true
      · exact h2
      · rw [isName_bad hc (by simpa using h1) (.inr (by simpa using h2))] at h; cases h
theorem dec_dig {n : Nat} (h : n < 100) : (decB n).data.toList.all digB = true ∧ 1 ≤ (decB n).data.toList.length ∧ (decB n).data.toList.length ≤ 2 := by
  have key : ∀ i : Fin 100, (decB i.val).data.toList.all digB = true ∧ 1 ≤ (decB i.val).data.toList.length ∧ (decB i.val).data.toList.length ≤ 2 := by decide +kernel
  exact key ⟨n, h⟩
theorem kw_dig : ∀ w ∈ kwList, ∀ c ∈ w, digB c = false := by decide +kernel
theorem strip_prefix (s : ByteArray) : (stripB s.size s).data.toList <+: s.data.toList := by
  rw [← trimR_strip s.size s rfl]
  unfold Lib.trimRightS
  have := List.reverse_prefix.2 (List.dropWhile_suffix (l := s.data.toList.reverse) (fun c => digL.contains c))
  rwa [List.reverse_reverse] at this
theorem dropAll {p : UInt8 → Bool} : ∀ {l : List UInt8}, l.dropWhile p = [] → ∀ x ∈ l, p x = true
  | [], _, x, hx => by cases hx
  | y :: l, h, x, hx => by
    rw [List.dropWhile_cons] at h
    split at h
    · rename_i hy
      rcases List.mem_cons.1 hx with rfl | hx
      · exact hy
      · exact dropAll h x hx
    · cases h
theorem strip_some {s : ByteArray} (h : isNameL s.data.toList = true) : 1 ≤ (stripB s.size s).data.toList.length := by
  rw [← trimR_strip s.size s rfl]
  unfold Lib.trimRightS
  rw [List.length_reverse]
  rcases Nat.eq_zero_or_pos (List.dropWhile (fun c => digL.contains c) s.data.toList.reverse).length with q | q
  · have q2 := List.length_eq_zero_iff.1 q
    replace q2 := dropAll q2
    cases hl : s.data.toList with
    | nil => rw [hl] at h; simp [isNameL] at h
    | cons c r =>
      have h0 : s.data.toList[0]? = some c := by rw [hl]; rfl
      rcases isName_at h h0 with h1 | h1
      · have := q2 c (by rw [hl]; simp)
        rw [digL_has] at this
        simp [lowB] at this h1
        omega
      · exact absurd rfl h1.1
  · exact q
theorem stem_prefix (s : ByteArray) : (stemB s).data.toList <+: s.data.toList := by
  unfold stemB
  split
  · rw [data_extract, List.drop_zero]
    exact (List.take_prefix _ _).trans (strip_prefix s)
  · exact strip_prefix s
theorem stem_some {s : ByteArray} (h : isNameL s.data.toList = true) : 1 ≤ (stemB s).data.toList.length := by
  have h1 := strip_some h
  unfold stemB
  split
  · rename_i h2
    rw [data_length, ByteArray.size_extract]; omega
  · exact h1
theorem stem_min (s : ByteArray) : (stripB s.size s).extract 0 (min (stripB s.size s).size 6) = stemB s := by
  unfold stemB
  split
  · rw [show min (stripB s.size s).size 6 = 6 by omega]
  · rename_i h
    rw [show min (stripB s.size s).size 6 = (stripB s.size s).size by omega]
    exact ByteArray.extract_zero_size
theorem stem_name {s : ByteArray} (h : isNameL s.data.toList = true) {n : Nat} (hn : n < 100) : isNameL (stemB s ++ decB n).data.toList = true := by
  obtain ⟨d1, d2, d3⟩ := dec_dig hn
  have hs1 := stem_some h
  have hs2 := stemB_size s
  rw [← data_length] at hs2
  obtain ⟨r, hr⟩ := stem_prefix s
  rw [data_append]
  rw [isName_end]
  · have hk : kwList.contains ((stemB s).data.toList ++ (decB n).data.toList) = false := by
      rcases Bool.eq_false_or_eq_true (kwList.contains ((stemB s).data.toList ++ (decB n).data.toList)) with q | q
      · have q1 := List.contains_iff_mem.1 q
        obtain ⟨c, hc⟩ := List.exists_mem_of_length_pos (l := (decB n).data.toList) (by omega)
        have q2 := kw_dig _ q1 c (by simp [hc])
        rw [List.all_eq_true.1 d1 c hc] at q2
        cases q2
      · exact q
    rw [hk, List.length_append]
    simp only [Bool.not_false, Bool.and_true, Bool.and_eq_true, decide_eq_true_eq]
    omega
  · intro i c hc
    rcases Nat.lt_or_ge i (stemB s).data.toList.length with q | q
    · rw [List.getElem?_append_left q] at hc
      refine isName_at h (i := i) ?_
      rw [← hr, List.getElem?_append_left q]; exact hc
    · rw [List.getElem?_append_right q] at hc
      exact .inr ⟨by omega, List.all_eq_true.1 d1 c (List.mem_of_getElem? hc)⟩
theorem ifresh_AF (name : ByteArray) (l : List ByteArray) (hv : isNameL name.data.toList = true) (hn : name.size ≤ 1000000) (hl : l.length ≤ 90) : Fn 39 [str name, .ro 1 (strs l) [] false] (str (freshB name l)) := by
  have hst := stemB_size name
  refine AF.intro Tryd.func39 nm39 rfl rfl rfl rfl fun w0 ok0 => ?_
  refine AWP.seq ?_
  refine AWP.region ?_
  refine Y (ass rfl) rfl ?_
  refine AOps.nil ?_
  refine AWP.seq ?_
  refine AWP.seq ?_
  refine AWP.region ?_
  refine Y (mv rfl) rfl ?_
  refine Y (mv rfl) rfl ?_
  refine AOps.callro (scontains_AF l name (by omega)) rfl rfl rfl ?_
  refine Y (Yields.not rfl) rfl ?_
  refine AOps.nil ?_
  refine AWP.condT rfl (fun c => ?_) (fun c => ?_)
  · skip
    refine AWP.seq ?_
    refine AWP.region ?_
    refine Y (mv rfl) rfl ?_
    refine Y (ass rfl) rfl ?_
    refine AOps.nil ?_
    refine AWP.ret ⟨.inl rfl, ?_⟩
    exact RetIs.oneV rfl rfl (by (rw [freshB, if_pos (by simpa using c)]) <;> rfl)
  · skip
    refine AWP.skip ?_
    refine AWP.seq ?_
    refine AWP.region ?_
    refine Y (mv rfl) rfl ?_
    refine AOps.callro (trimRight_AF name (by omega)) rfl rfl rfl ?_
    refine Y (ass rfl) rfl ?_
    refine AOps.nil ?_
    refine AWP.seq ?_
    refine AWP.region ?_
    refine Y (mv rfl) rfl ?_
    refine Y (mv rfl) rfl ?_
    refine Y (Yields.len_str Tryd.underlying9 rfl) rfl ?_
    refine Y (Yields.min2 rfl rfl) rfl ?_
    refine Y (Yields.slice_str Tryd.underlying9 rfl (l := 0) (u := min (stripB name.size name).size 6) rfl ⟨.i64, by show some (AV.val (Value.int .i64 _)) = _; congr 3; omega⟩ (by omega) (by omega)) rfl ?_
    refine Y (ass rfl) rfl ?_
    refine AOps.nil ?_
    refine AWP.seq ?_
    refine AWP.region ?_
    refine Y (ass rfl) rfl ?_
    refine AOps.nil ?_
    refine AWP.block ?_
    refine AWP.loopV (α := Nat) (fun n : Nat => ⟨[(0, str name), (1, .ro 1 (strs l) [] false), (5, str (stemB name)), (6, int n)], []⟩) (fun n : Nat => 1 ≤ n ∧ n ≤ 91 ∧ freshN name l (99 - n) n = freshB name l ∧ ∀ j, 1 ≤ j → j < n → memB l (stemB name ++ decB j) = true) (fun n : Nat => 99 - n) (1) ?_ ?_ ?_
    · exact Leads.rows 0 ⟨rfl, rfl, (by show some (AV.val (Value.string _)) = some (AV.val (Value.string _)); rw [stem_min]), rfl, trivial⟩
    · show 1 ≤ 1 ∧ 1 ≤ 91 ∧ freshN name l (99 - 1) 1 = freshB name l ∧ ∀ j, 1 ≤ j → j < 1 → memB l (stemB name ++ decB j) = true
      exact ⟨by omega, by omega, by rw [freshB, if_neg (by simpa using c)], fun j h1 h2 => by omega⟩
    · rintro n hinv
      refine AWP.seq ?_
      refine AWP.block ?_
      refine AWP.seq ?_
      refine AWP.region ?_
      obtain ⟨h1, h2, h3, h4⟩ := hinv
      have hdc := decB_size n
      obtain ⟨f, hf⟩ : ∃ f, 99 - n = f + 1 := ⟨98 - n, by omega⟩
      have hf2 : 99 - (n + 1) = f := by omega
      rw [hf, freshN] at h3
      refine Y (mv rfl) rfl ?_
      refine Y (mv rfl) rfl ?_
      refine AOps.callro (itoa_AF n (by omega)) rfl rfl rfl ?_
      refine Y (bn rfl rfl (BinR.sadd (by omega)) rfl) rfl ?_
      refine Y (ass rfl) rfl ?_
      refine AOps.nil ?_
      refine AWP.seq ?_
      refine AWP.region ?_
      refine Y (mv rfl) rfl ?_
      refine Y (mv rfl) rfl ?_
      refine AOps.callro (scontains_AF l (stemB name ++ decB n) (by omega)) rfl rfl rfl ?_
      refine Y (Yields.not rfl) rfl ?_
      refine AOps.nil ?_
      refine AWP.condT rfl (fun g2 => ?_) (fun g2 => ?_)
      · skip
        refine AWP.seq ?_
        refine AWP.region ?_
        rw [if_pos ⟨by simpa using g2, stem_name hv (by omega)⟩] at h3
        refine Y (mv rfl) rfl ?_
        refine Y (ass rfl) rfl ?_
        refine AOps.nil ?_
        refine AWP.ret ⟨.inl rfl, ?_⟩
        exact RetIs.oneV rfl rfl (by (rw [← h3]) <;> rfl)
      · skip
        have g2' : memB l (stemB name ++ decB n) = true := by simpa using g2
        rw [if_neg (fun q => absurd q.1 (by rw [g2']; simp))] at h3
        have h5 : ∀ j, 1 ≤ j → j < n + 1 → memB l (stemB name ++ decB j) = true := fun j q1 q2 => by
           by_cases e : j = n
           · rw [e]; exact g2'
           · exact h4 j q1 (by omega)
        have h6 := taken_le (stemB name) l (n + 1) (by omega) h5
        refine AWP.skip ?_
        refine AWP.region ?_
        refine Y (mv rfl) rfl ?_
        refine Y (bn rfl rfl (BinR.addI (by omega) (by omega)) rfl) rfl ?_
        refine Y (ass rfl) rfl ?_
        refine AOps.nil ?_
        refine ⟨n + 1, ?_, ?_, ?_⟩
        · show 99 - (n + 1) < 99 - n
          omega
        · show 1 ≤ (n + 1) ∧ (n + 1) ≤ 91 ∧ freshN name l (99 - (n + 1)) (n + 1) = freshB name l ∧ ∀ j, 1 ≤ j → j < (n + 1) → memB l (stemB name ++ decB j) = true
          exact ⟨by omega, by omega, by rw [hf2]; exact h3, h5⟩
        · exact Leads.rows 0 ⟨rfl, rfl, rfl, rfl, trivial⟩
def freshNm (name : ByteArray) (l : List ByteArray) : ByteArray := if isNameL name.data.toList = true ∧ l.length ≤ 90 then freshB name l else ⟨#[]⟩
theorem sFreshName_AF (name : ByteArray) (l : List ByteArray) (hn : name.size ≤ 1000000) (hl : l.length ≤ 1000000) : Fn 17 [str name, .ro 1 (strs l) [] false] (str (freshNm name l)) := by
  have hlen := strs_length l
  refine AF.intro Tryd.func17 nm17 rfl rfl rfl rfl fun w0 ok0 => ?_
  refine AWP.seq ?_
  refine AWP.region ?_
  refine Y (ass rfl) rfl ?_
  refine AOps.nil ?_
  refine AWP.seq ?_
  refine AWP.seq ?_
  refine AWP.region ?_
  refine Y (mv rfl) rfl ?_
  refine AOps.callro (isName_AF name (by omega)) rfl rfl rfl ?_
  refine Y (Yields.not rfl) rfl ?_
  refine Y (mv rfl) rfl ?_
  refine AOps.split 8 rfl (fun h => ?_) (fun h => ?_)
  ·
   skip
   refine AOps.off' rfl rfl rfl rfl ?_
   refine AOps.off' rfl rfl rfl rfl ?_
   refine AOps.off' rfl rfl rfl rfl ?_
   refine Y (Yields.pick_true rfl rfl) rfl ?_
   refine AOps.nil ?_
   refine AWP.cond rfl (fun _ => ?_) (fun h => absurd h (by decide))
   refine AWP.seq ?_
   refine AWP.region ?_
   refine Y (ass rfl) rfl ?_
   refine AOps.nil ?_
   refine AWP.ret ⟨.inl rfl, ?_⟩
   exact RetIs.oneV rfl rfl (by (rw [freshNm, if_neg (by rintro ⟨q, -⟩; rw [q] at h; simp at h)]) <;> rfl)
  ·
   skip
   refine AOps.on rfl rfl ?_
   refine Y (mv rfl) rfl ?_
   refine AOps.on rfl rfl ?_
   refine Y (Yields.len_ro sl44 rfl) rfl ?_
   refine AOps.on rfl rfl ?_
   refine Y (bn rfl rfl BinR.gtr rfl) rfl ?_
   refine Y (Yields.pick_false rfl rfl) rfl ?_
   refine AOps.nil ?_
   refine AWP.condT rfl (fun h2 => ?_) (fun h2 => ?_)
   ·
    replace h2 := of_decide_eq_true h2
    refine AWP.seq ?_
    refine AWP.region ?_
    refine Y (ass rfl) rfl ?_
    refine AOps.nil ?_
    refine AWP.ret ⟨.inl rfl, ?_⟩
    exact RetIs.oneV rfl rfl (by (rw [freshNm, if_neg (by omega)]) <;> rfl)
   ·
    replace h2 := of_decide_eq_false h2
    refine AWP.skip ?_
    refine AWP.seq ?_
    refine AWP.region ?_
    refine Y (mv rfl) rfl ?_
    refine Y (mv rfl) rfl ?_
    refine AOps.callro (fresh_AF name l (by omega) (by omega)) rfl rfl rfl ?_
    refine Y (ass rfl) rfl ?_
    refine AOps.nil ?_
    refine AWP.ret ⟨.inl rfl, ?_⟩
    exact RetIs.oneV rfl rfl (by (rw [freshNm, if_pos ⟨by simpa using h, by omega⟩]) <;> rfl)
theorem iFreshName_AF (name : ByteArray) (l : List ByteArray) (hn : name.size ≤ 1000000) (hl : l.length ≤ 1000000) : Fn 19 [str name, .ro 1 (strs l) [] false] (str (freshNm name l)) := by
  have hlen := strs_length l
  refine AF.intro Tryd.func19 nm19 rfl rfl rfl rfl fun w0 ok0 => ?_
  refine AWP.seq ?_
  refine AWP.region ?_
  refine Y (ass rfl) rfl ?_
  refine AOps.nil ?_
  refine AWP.seq ?_
  refine AWP.seq ?_
  refine AWP.region ?_
  refine Y (mv rfl) rfl ?_
  refine AOps.callro (nameOk_AF name (by omega)) rfl rfl rfl ?_
  refine Y (Yields.not rfl) rfl ?_
  refine Y (mv rfl) rfl ?_
  refine AOps.split 8 rfl (fun h => ?_) (fun h => ?_)
  ·
   skip
   refine AOps.off' rfl rfl rfl rfl ?_
   refine AOps.off' rfl rfl rfl rfl ?_
   refine AOps.off' rfl rfl rfl rfl ?_
   refine Y (Yields.pick_true rfl rfl) rfl ?_
   refine AOps.nil ?_
   refine AWP.cond rfl (fun _ => ?_) (fun h => absurd h (by decide))
   refine AWP.seq ?_
   refine AWP.region ?_
   refine Y (ass rfl) rfl ?_
   refine AOps.nil ?_
   refine AWP.ret ⟨.inl rfl, ?_⟩
   exact RetIs.oneV rfl rfl (by (rw [freshNm, if_neg (by rintro ⟨q, -⟩; rw [q] at h; simp at h)]) <;> rfl)
  ·
   skip
   refine AOps.on rfl rfl ?_
   refine Y (mv rfl) rfl ?_
   refine AOps.on rfl rfl ?_
   refine Y (Yields.len_ro sl44 rfl) rfl ?_
   refine AOps.on rfl rfl ?_
   refine Y (bn rfl rfl BinR.gtr rfl) rfl ?_
   refine Y (Yields.pick_false rfl rfl) rfl ?_
   refine AOps.nil ?_
   refine AWP.condT rfl (fun h2 => ?_) (fun h2 => ?_)
   ·
    replace h2 := of_decide_eq_true h2
    refine AWP.seq ?_
    refine AWP.region ?_
    refine Y (ass rfl) rfl ?_
    refine AOps.nil ?_
    refine AWP.ret ⟨.inl rfl, ?_⟩
    exact RetIs.oneV rfl rfl (by (rw [freshNm, if_neg (by omega)]) <;> rfl)
   ·
    replace h2 := of_decide_eq_false h2
    refine AWP.skip ?_
    refine AWP.seq ?_
    refine AWP.region ?_
    refine Y (mv rfl) rfl ?_
    refine Y (mv rfl) rfl ?_
    refine AOps.callro (ifresh_AF name l (by simpa using h) (by omega) (by omega)) rfl rfl rfl ?_
    refine Y (ass rfl) rfl ?_
    refine AOps.nil ?_
    refine AWP.ret ⟨.inl rfl, ?_⟩
    exact RetIs.oneV rfl rfl (by (rw [freshNm, if_pos ⟨by simpa using h, by omega⟩]) <;> rfl)
end Go.Proofs.YtccdgppplkfjfaaDoor
