/- All rules: SimpleAll. -/
import Derived.Test.YtccdgppplkfjfaaGreatSmp5
namespace Go.Proofs.YtccdgppplkfjfaaGreat
open Go Go.Ax Go.Proofs
set_option linter.unusedVariables false
set_option linter.unusedSimpArgs false
set_option maxRecDepth 20000
theorem allF_pos : ∀ (f : Nat) (k : Tr), 0 ≤ (allF f k).2 := by
  intro f
  induction f with
  | zero => intro k; rw [allF]; exact Int.le_refl _
  | succ f ih =>
    intro k
    obtain ⟨kd, nm, t, ks⟩ := k
    have hK : ∀ ks : List Tr, 0 ≤ (allK f ks).2 := by
      intro ks
      induction ks with
      | nil => rw [allK]; exact Int.le_refl _
      | cons k ks i2 => rw [allK]; have := ih k; show 0 ≤ (allF f k).2 + (allK f ks).2; omega
    have h1 := hK ks
    rw [allF]
    split
    · exact h1
    · have := ih (simplerT (.mk kd nm t (allK f ks).1)).1
      show 0 ≤ (allK f ks).2 + 1 + (allF f (simplerT (.mk kd nm t (allK f ks).1)).1).2
      omega
theorem allK_pos (f : Nat) : ∀ ks : List Tr, 0 ≤ (allK f ks).2
  | [] => by rw [allK]; exact Int.le_refl _
  | k :: ks => by rw [allK]; have := allF_pos f k; have := allK_pos f ks; show 0 ≤ (allF f k).2 + (allK f ks).2; omega
def okAll (k : Tr) (d : Int) (x : Tr × Int) : Prop := x.1.bnd 1000000 ∧ validS x.1 d = true ∧ sizeT x.1 + x.2 ≤ sizeT k
theorem valid_same {kd nm : Int} {t : ByteArray} {ks ks' : List Tr} {d : Int} (h : validS (.mk kd nm t ks) d = true) (hl : ks'.length = ks.length) (hv : validSs ks' (d - 1) = true) : validS (.mk kd nm t ks') d = true := by
  rw [validS] at h ⊢
  split at h
  · cases h
  · rename_i q
    rw [if_neg (by rw [hl]; exact q)]
    exact hv
theorem allK_facts (f : Nat) (ih : ∀ (k : Tr) (d : Int), sizeT k ≤ f → 0 ≤ d → k.bnd 1000000 → validS k d = true → okAll k d (allF f k)) : ∀ (ks : List Tr) (d : Int), sizeTs ks ≤ f → 0 ≤ d → Tr.bnds 1000000 ks → validSs ks d = true →
    (allK f ks).1.length = ks.length ∧ Tr.bnds 1000000 (allK f ks).1 ∧ validSs (allK f ks).1 d = true ∧ sizeTs (allK f ks).1 + (allK f ks).2 ≤ sizeTs ks
  | [], d, h, h0, hb, hv => by rw [allK]; exact ⟨rfl, trivial, by rw [validSs], by simp [sizeTs]⟩
  | k :: ks, d, h, h0, hb, hv => by
    rw [sizeTs] at h
    have p1 := sizeT_pos k
    have p2 := sizeTs_pos ks
    rw [validSs, Bool.and_eq_true] at hv
    obtain ⟨a1, a2, a3⟩ := ih k d (by omega) h0 hb.1 hv.1
    obtain ⟨c1, c2, c3, c4⟩ := allK_facts f ih ks d (by omega) h0 hb.2 hv.2
    rw [allK]
    refine ⟨by simp [c1], ⟨a1, c2⟩, by rw [validSs, a2, c3]; rfl, ?_⟩
    show sizeTs ((allF f k).1 :: (allK f ks).1) + ((allF f k).2 + (allK f ks).2) ≤ _
    rw [sizeTs, sizeTs]
    omega
theorem all_facts : ∀ (f : Nat) (k : Tr) (d : Int), sizeT k ≤ f → 0 ≤ d → k.bnd 1000000 → validS k d = true → okAll k d (allF f k) := by
  intro f
  induction f with
  | zero => intro k d h; have := sizeT_pos k; omega
  | succ f ih =>
    intro k d h h0 hb hv
    obtain ⟨kd, nm, t, ks⟩ := k
    obtain ⟨v1, v2, v3⟩ := validS_inv hv
    obtain ⟨b1, b2, b3⟩ := hb
    have hs : sizeT (.mk kd nm t ks) = 1 + sizeTs ks := by rw [sizeT]
    obtain ⟨c1, c2, c3, c4⟩ := allK_facts f ih ks (d - 1) (by omega) (by omega) b3 v3
    have hob : Tr.bnd 1000000 (.mk kd nm t (allK f ks).1) := ⟨b1, by omega, c2⟩
    have hov := valid_same hv c1 c3
    have hos : sizeT (.mk kd nm t (allK f ks).1) = 1 + sizeTs (allK f ks).1 := by rw [sizeT]
    have hst := simpler_step h0 hob hov
    have hsf := simpler_facts hob hov
    have hkp := allK_pos f ks
    rw [allF]
    split
    · exact ⟨hob, hov, by show sizeT (.mk kd nm t (allK f ks).1) + (allK f ks).2 ≤ _; omega⟩
    · rename_i hr
      have hlt := hst.2 hr
      obtain ⟨a1, a2, a3⟩ := ih (simplerT (.mk kd nm t (allK f ks).1)).1 d (by omega) h0 hsf.1 hst.1
      refine ⟨a1, a2, ?_⟩
      show sizeT (allF f (simplerT (.mk kd nm t (allK f ks).1)).1).1 + ((allK f ks).2 + 1 + (allF f (simplerT (.mk kd nm t (allK f ks).1)).1).2) ≤ _
      omega
theorem simV.fz {x : Tr × Int} {r : AV} {hp' : Hp} (h : simV x r hp') : Fz hp' r (.tup [x.1.av, int x.2]) := by
  obtain ⟨rfl, rfl⟩ := h
  exact (Bor.refl (by simp [plainV, plainL, Tr.plain_av])).fz
theorem sizeTs_at' {ks : List Tr} {i : Nat} {k : Tr} (h : ks[i]? = some k) : sizeT k ≤ sizeTs ks := by
  induction ks generalizing i with
  | nil => simp at h
  | cons a ks ih =>
    have p1 := sizeT_pos a
    have p2 := sizeTs_pos ks
    rw [sizeTs]
    cases i with
    | zero => simp at h; subst h; omega
    | succ i => have := ih (i := i) (by simpa using h); omega
theorem avs_snoc' (l : List Tr) (k : Tr) : Tr.avs l ++ [k.av] = Tr.avs (l ++ [k]) := by
  induction l with
  | nil => rfl
  | cons x l ih => simp only [List.cons_append, Tr.avs, ih]
theorem plain_avs' : ∀ l : List Tr, plainL (Tr.avs l) = true
  | [] => rfl
  | k :: l => by simp only [Tr.avs, plainL, Tr.plain_av, Bool.true_and]; exact plain_avs' l
theorem fz_node' {B : Option Nat} {k n : Int} {t : ByteArray} {l : List Tr} {len : Nat} (hl : len = l.length) : Fz [(B, ⟨4, Tr.avs l⟩)] (.agg [int k, int n, str t, .loc B 0 len len 4]) (Tr.av (.mk k n t l)) := by
  subst hl
  exact (Bor.agg (us := [int k, int n, str t, .loc B 0 l.length l.length 4]) (ps := [int k, int n, str t, .ro 4 (Tr.avs l) [] false]) ⟨Bor.refl rfl, Bor.refl rfl, Bor.refl rfl, Bor.loc (j := 0) rfl (by simp [Tr.avs_length]) (by rw [List.take_of_length_le (by simp [Tr.avs_length])]; exact viewL_refl (plain_avs' l)), trivial⟩).fz
theorem isimplest_AH : ∀ (f : Nat) (k : Tr) (d : Int), sizeT k ≤ f → sizeT k ≤ 2000000 → 0 ≤ d → d ≤ 90 → k.bnd 1000000 → validS k d = true → FnH 18 [] [k.av] (simV (allF f k)) := by
  intro f
  induction f with
  | zero => intro k d h; have := sizeT_pos k; omega
  | succ f ih =>
  intro k d h hz h0 hd hb hv
  have ihF : ∀ (k : Tr) (d : Int), sizeT k ≤ f → sizeT k ≤ 2000000 → 0 ≤ d → d ≤ 90 → k.bnd 1000000 → validS k d = true → Fn 18 [k.av] (.tup [(allF f k).1.av, int (allF f k).2]) := fun k d a1 a2 a3 a4 a5 a6 =>
    AH.toF (by simp [plainL, Tr.plain_av]) (ih k d a1 a2 a3 a4 a5 a6) (fun r hp' h => simV.fz h)
  obtain ⟨kd, nm, t, ks⟩ := k
  obtain ⟨v1, v2, v3⟩ := validS_inv hv
  obtain ⟨b1', b2', b3'⟩ := hb
  have hs : sizeT (.mk kd nm t ks) = 1 + sizeTs ks := by rw [sizeT]
  have hlen := Tr.avs_length ks
  obtain ⟨c1, c2, c3, c4⟩ := allK_facts f (all_facts f) ks (d - 1) (by omega) (by omega) b3' v3
  have hob : Tr.bnd 1000000 (.mk kd nm t (allK f ks).1) := ⟨b1', by omega, c2⟩
  have hov := valid_same hv c1 c3
  have hos : sizeT (.mk kd nm t (allK f ks).1) = 1 + sizeTs (allK f ks).1 := by rw [sizeT]
  have hst := simpler_step h0 hob hov
  have hsf := simpler_facts hob hov
  have hkp := allK_pos f ks
  have hop := sizeTs_pos (allK f ks).1
  have sF : Fn 30 [Tr.av (.mk kd nm t (allK f ks).1)] (.tup [(simplerT (.mk kd nm t (allK f ks).1)).1.av, int (simplerT (.mk kd nm t (allK f ks).1)).2]) :=
    AH.toF (by simp [plainL, Tr.plain_av]) (isimpler_AH _ d h0 hd hob (by omega) hov) (fun r hp' h => simV.fz h)
  refine AH.intro Tryz.func18 nm18 rfl rfl rfl fun w0 ok0 own0 => ?_
  refine AWP.seq ?_
  refine AWP.region ?_
  refine AOps.box rfl rfl rfl rfl fun b1 => ?_
  refine AOps.alloc rfl z28 rfl rfl fun b2 => ?_
  refine Y (ass rfl) rfl ?_
  refine AOps.nil ?_
  refine AWP.seq ?_
  refine AWP.region ?_
  refine Y (Yields.load_ptr_agg (j := 1) kd28 rfl rfl rfl rfl) rfl ?_
  refine AOps.alloc rfl z28 rfl rfl fun b4 => ?_
  refine AOps.store (j := 0) kd28 rfl rfl rfl rfl rfl rfl ?_
  refine Y (ass rfl) rfl ?_
  refine AOps.nil ?_
  refine AWP.seq ?_
  refine AWP.region ?_
  refine Y (Yields.fieldAddr_ptr fo28_3 rfl) rfl ?_
  refine AOps.storeField (j := 0) kd26 rfl rfl rfl rfl rfl rfl rfl ?_
  refine AOps.nil ?_
  refine AWP.seq ?_
  refine AWP.seq ?_
  refine AWP.region ?_
  refine Y (Yields.fieldAddr_ptr fo28_3 rfl) rfl ?_
  refine Y (Yields.load_ptr_field (j := 2) kd26 rfl rfl rfl rfl rfl rfl rfl) rfl ?_
  refine Y (Yields.len_ro sl26 rfl) rfl ?_
  refine Y (mv rfl) rfl ?_
  refine AOps.nil ?_
  refine AWP.leads (Leads.rowWk 0 0 rfl rfl (Wk.agg (ps := [_, _, _, .loc none 0 0 0 4]) ⟨Wk.refl _, Wk.refl _, Wk.refl _, Wk.nilLoc (n := 4), trivial⟩)) ?_
  refine AWP.leads (Leads.row0 4) ?_
  refine AWP.block ?_
  refine AWP.loopV (α := Option Nat × List Tr × Int × Nat) (fun pp : Option Nat × List Tr × Int × Nat => match pp with | (B, ls, n, i) => ⟨[(1, .ptr (some b1) 0 0 4), (2, .ptr (some b2) 0 0 4), (4, .ptr (some b4) 0 0 4), (5, int n), (16, .ro 4 (Tr.avs ks) [] false), (17, int (Tr.avs ks).length), (18, int i)], [(some b4, ⟨4, [.agg [int kd, int nm, str t, .loc B 0 ls.length ls.length 4]]⟩), (B, ⟨4, Tr.avs ls⟩), (some b1, ⟨4, [Tr.av (.mk kd nm t ks)]⟩), (some b2, ⟨4, [zero4]⟩)]⟩) (fun pp : Option Nat × List Tr × Int × Nat => match pp with | (B, ls, n, i) => i ≤ ks.length ∧ ls.length = i ∧ 0 ≤ n ∧ ls ++ (allK f (ks.drop i)).1 = (allK f ks).1 ∧ n + (allK f (ks.drop i)).2 = (allK f ks).2) (fun pp : Option Nat × List Tr × Int × Nat => match pp with | (B, ls, n, i) => ks.length - i) ((none, [], 0, 0)) ?_ ?_ ?_
  · exact Leads.keepR (KeepR.cons 1 rfl (KeepR.cons 0 rfl (KeepR.cons 1 rfl (KeepR.cons 0 rfl KeepR.nil)))) ⟨rfl, rfl, rfl, rfl, rfl, rfl, rfl, trivial⟩
  ·
   show 0 ≤ ks.length ∧ ([]).length = 0 ∧ 0 ≤ 0 ∧ ([]) ++ (allK f (ks.drop 0)).1 = (allK f ks).1 ∧ 0 + (allK f (ks.drop 0)).2 = (allK f ks).2
   exact ⟨Nat.zero_le _, rfl, Int.le_refl _, by simp, by simp⟩
  ·
   rintro ⟨B, ls, n, i⟩ hinv
   replace hinv : i ≤ ks.length ∧ ls.length = i ∧ 0 ≤ n ∧ ls ++ (allK f (ks.drop i)).1 = (allK f ks).1 ∧ n + (allK f (ks.drop i)).2 = (allK f ks).2 := hinv
   show AWP _ _ _ _ ⟨[(1, .ptr (some b1) 0 0 4), (2, .ptr (some b2) 0 0 4), (4, .ptr (some b4) 0 0 4), (5, int n), (16, .ro 4 (Tr.avs ks) [] false), (17, int (Tr.avs ks).length), (18, int i)], [(some b4, ⟨4, [.agg [int kd, int nm, str t, .loc B 0 ls.length ls.length 4]]⟩), (B, ⟨4, Tr.avs ls⟩), (some b1, ⟨4, [Tr.av (.mk kd nm t ks)]⟩), (some b2, ⟨4, [zero4]⟩)]⟩
   refine AWP.seq ?_
   refine AWP.region ?_
   obtain ⟨hi, hll, hn, ha1, ha2⟩ := hinv
   refine Y (bn rfl rfl BinR.lss rfl) rfl ?_
   refine AOps.nil ?_
   refine AWP.seq ?_
   refine AWP.condT rfl (fun g => ?_) (fun g => ?_)
   ·
    replace g := of_decide_eq_true g
    obtain ⟨⟨xk, xn, xt, xks⟩, hx, hdx⟩ := drop_at (l := ks) (i := i) (by omega)
    have hxb := Tr.bnds_get b3' hx
    have hxv := validSs_get v3 hx
    have hxs := sizeTs_at' hx
    have hxp := sizeT_pos (.mk xk xn xt xks)
    have hap := allF_pos f (.mk xk xn xt xks)
    have hkd := allK_pos f (ks.drop (i + 1))
    have xF := ihF (.mk xk xn xt xks) (d - 1) (by omega) (by omega) (by omega) (by omega) hxb hxv
    rw [hdx, allK] at ha1 ha2
    replace ha1 : ls ++ ((allF f (.mk xk xn xt xks)).1 :: (allK f (ks.drop (i + 1))).1) = (allK f ks).1 := ha1
    replace ha2 : n + ((allF f (.mk xk xn xt xks)).2 + (allK f (ks.drop (i + 1))).2) = (allK f ks).2 := ha2
    refine pairElim (allF f (.mk xk xn xt xks)) fun zk zn zt zks m hzz => ?_
    rw [hzz] at xF ha1 ha2 hap
    replace hap : 0 ≤ m := hap
    replace ha1 : ls ++ ((.mk zk zn zt zks) :: (allK f (ks.drop (i + 1))).1) = (allK f ks).1 := ha1
    replace ha2 : n + (m + (allK f (ks.drop (i + 1))).2) = (allK f ks).2 := ha2
    refine AWP.skip ?_
    refine AWP.seq ?_
    refine AWP.block ?_
    refine AWP.seq ?_
    refine AWP.region ?_
    refine Y (Yields.idx_roN sl26 rfl rfl rfl rfl (by omega)) rfl ?_
    refine Y (Yields.load_rop_aggV kd28 rfl (Tr.avs_at hx) rfl) rfl ?_
    refine AOps.alloc rfl z28 rfl rfl fun b7 => ?_
    refine AOps.store (j := 0) kd28 rfl rfl rfl rfl rfl rfl ?_
    refine AOps.nil ?_
    refine AWP.seq ?_
    refine AWP.region ?_
    refine Y (Yields.load_ptr_agg (j := 0) kd28 rfl rfl rfl rfl) rfl ?_
    refine AOps.callro (xF) rfl rfl rfl ?_
    refine Y (mv rfl) rfl ?_
    refine Y (Yields.extract rfl rfl) rfl ?_
    refine Y (Yields.extract rfl rfl) rfl ?_
    refine AOps.alloc rfl z28 rfl rfl fun b8 => ?_
    refine AOps.store (j := 0) kd28 rfl rfl rfl rfl rfl rfl ?_
    refine Y (ass rfl) rfl ?_
    refine AOps.nil ?_
    refine AWP.seq ?_
    refine AWP.region ?_
    refine Y (Yields.fieldAddr_ptr fo28_3 rfl) rfl ?_
    refine Y (Yields.load_ptr_field (j := 2) kd26 rfl rfl rfl rfl rfl rfl rfl) rfl ?_
    refine Y (Yields.load_ptr_agg (j := 0) kd28 rfl rfl rfl rfl) rfl ?_
    refine AOps.buildSlice sl26 z28 rfl rfl rfl rfl rfl fun Bs => ?_
    refine AOps.appendE (j := 4) sl26 z28 rfl rfl rfl rfl rfl (Tr.avs_length ls) rfl (src_row (j2 := 0) rfl rfl rfl) (show ls.length + 1 = (ls ++ [Tr.mk zk zn zt zks]).length by simp) (avs_snoc' ls (.mk zk zn zt zks)) (by simp; omega) (by simp; omega) fun Bn => ?_
    refine Y (Yields.fieldAddr_ptr fo28_3 rfl) rfl ?_
    refine AOps.storeField (j := 3) kd26 rfl rfl rfl rfl rfl rfl rfl ?_
    refine AOps.nil ?_
    refine AWP.region ?_
    refine Y (mv rfl) rfl ?_
    refine Y (mv rfl) rfl ?_
    refine Y (bn rfl rfl (BinR.addI (by omega) (by omega)) rfl) rfl ?_
    refine Y (ass rfl) rfl ?_
    refine AOps.nil ?_
    refine AWP.region ?_
    refine Y (bn rfl rfl (BinR.addI (by omega) (by omega)) rfl) rfl ?_
    refine Y (mv rfl) rfl ?_
    refine AOps.nil ?_
    refine ⟨(Bn, ls ++ [Tr.mk zk zn zt zks], n + m, i + 1), ?_, ?_, ?_⟩
    ·
     show ks.length - (i + 1) < ks.length - i
     omega
    ·
     show (i + 1) ≤ ks.length ∧ (ls ++ [Tr.mk zk zn zt zks]).length = (i + 1) ∧ 0 ≤ (n + m) ∧ (ls ++ [Tr.mk zk zn zt zks]) ++ (allK f (ks.drop (i + 1))).1 = (allK f ks).1 ∧ (n + m) + (allK f (ks.drop (i + 1))).2 = (allK f ks).2
     exact ⟨by omega, by simp; omega, by omega, by rw [← ha1]; simp, by omega⟩
    · exact Leads.keepR (KeepR.cons 3 rfl (KeepR.cons 3 rfl (KeepR.cons 3 rfl (KeepR.cons 3 rfl KeepR.nil)))) ⟨rfl, rfl, rfl, rfl, rfl, rfl, rfl, trivial⟩
   ·
    replace g := of_decide_eq_false g
    rw [List.drop_eq_nil_of_le (by omega), allK] at ha1 ha2
    replace ha1 : ls = (allK f ks).1 := by simpa using ha1
    replace ha2 : n = (allK f ks).2 := by simpa using ha2
    rw [← ha1] at sF hob hov hos hst hsf c1 c2 c3 c4
    refine AWP.exit ?_
    refine AWP.seq ?_
    refine AWP.region ?_
    refine AOps.leads (Leads.pull 1 rfl) ?_
    refine AOps.leads (Leads.freezeRow 1 0 0 (.inl trivial) rfl rfl rfl (fz_node' rfl)) ?_
    have hall := show allF (f + 1) (.mk kd nm t ks) = _ from by rw [allF]
    rw [← ha1, ← ha2] at hall
    refine pairElim (simplerT (.mk kd nm t ls)) fun yk yn yt yks m hyy => ?_
    rw [hyy] at sF hst hsf hall
    replace hall : allF (f + 1) (.mk kd nm t ks) = if m = 0 then (.mk kd nm t ls, n) else ((allF f (.mk yk yn yt yks)).1, n + 1 + (allF f (.mk yk yn yt yks)).2) := hall
    refine Y (Yields.load_ptr_agg (j := 0) kd28 rfl rfl rfl rfl) rfl ?_
    refine AOps.callro (sF) rfl rfl rfl ?_
    refine Y (mv rfl) rfl ?_
    refine Y (Yields.extract rfl rfl) rfl ?_
    refine Y (Yields.extract rfl rfl) rfl ?_
    refine AOps.alloc rfl z28 rfl rfl fun b10 => ?_
    refine AOps.store (j := 0) kd28 rfl rfl rfl rfl rfl rfl ?_
    refine Y (ass rfl) rfl ?_
    refine AOps.nil ?_
    refine AWP.seq ?_
    refine AWP.seq ?_
    refine AWP.region ?_
    refine Y (mv rfl) rfl ?_
    refine Y (bn rfl rfl BinR.eql rfl) rfl ?_
    refine AOps.nil ?_
    refine AWP.condT rfl (fun e => ?_) (fun e => ?_)
    ·
     replace e := eq_of_beq e
     refine AWP.seq ?_
     refine AWP.region ?_
     refine Y (Yields.load_ptr_agg (j := 1) kd28 rfl rfl rfl rfl) rfl ?_
     refine Y (mv rfl) rfl ?_
     refine AOps.store (j := 3) kd28 rfl rfl rfl rfl rfl rfl ?_
     refine Y (ass rfl) rfl ?_
     refine AOps.nil ?_
     refine AWP.ret ⟨.inl rfl, ?_⟩
     exact RetH.of (rs := [.cell 2 28, .tmp 3]) (vs := [_, _]) rfl ⟨resOne.cell (j := 3) rfl rfl kd28 rfl rfl rfl, rfl, trivial⟩ KeepR.nil (⟨by rw [hall, if_pos e]; rfl, rfl⟩)
    ·
     replace e := ne_of_beq_false e
     rw [if_neg e] at hall
     have hlt : sizeT (.mk yk yn yt yks) < sizeT (.mk kd nm t ls) := hst.2 e
     have hyF := ihF (.mk yk yn yt yks) d (by omega) (by omega) h0 hd hsf.1 hst.1
     obtain ⟨q1, q2, q3⟩ := all_facts f (.mk yk yn yt yks) d (by omega) h0 hsf.1 hst.1
     have q4 := sizeT_pos (allF f (.mk yk yn yt yks)).1
     have q5 := allF_pos f (.mk yk yn yt yks)
     refine pairElim (allF f (.mk yk yn yt yks)) fun wk wn wt wks m2 hww => ?_
     rw [hww] at hyF hall q3 q4 q5
     replace q3 : sizeT (.mk wk wn wt wks) + m2 ≤ sizeT (.mk yk yn yt yks) := q3
     replace q4 : 1 ≤ sizeT (.mk wk wn wt wks) := q4
     replace q5 : 0 ≤ m2 := q5
     replace hall : allF (f + 1) (.mk kd nm t ks) = (.mk wk wn wt wks, n + 1 + m2) := hall
     refine AWP.skip ?_
     refine AWP.seq ?_
     refine AWP.region ?_
     refine Y (Yields.load_ptr_agg (j := 0) kd28 rfl rfl rfl rfl) rfl ?_
     refine AOps.callro (hyF) rfl rfl rfl ?_
     refine Y (mv rfl) rfl ?_
     refine Y (Yields.extract rfl rfl) rfl ?_
     refine Y (Yields.extract rfl rfl) rfl ?_
     refine AOps.store (j := 0) kd28 rfl rfl rfl rfl rfl rfl ?_
     refine Y (ass rfl) rfl ?_
     refine AOps.nil ?_
     refine AWP.seq ?_
     refine AWP.region ?_
     refine Y (Yields.load_ptr_agg (j := 0) kd28 rfl rfl rfl rfl) rfl ?_
     refine Y (mv rfl) rfl ?_
     refine Y (bn rfl rfl (BinR.addI (by omega) (by omega)) rfl) rfl ?_
     refine Y (mv rfl) rfl ?_
     refine Y (bn rfl rfl (BinR.addI (by omega) (by omega)) rfl) rfl ?_
     refine AOps.store (j := 3) kd28 rfl rfl rfl rfl rfl rfl ?_
     refine Y (ass rfl) rfl ?_
     refine AOps.nil ?_
     refine AWP.ret ⟨.inl rfl, ?_⟩
     exact RetH.of (rs := [.cell 2 28, .tmp 3]) (vs := [_, _]) rfl ⟨resOne.cell (j := 3) rfl rfl kd28 rfl rfl rfl, rfl, trivial⟩ KeepR.nil (⟨by rw [hall]; rfl, rfl⟩)
theorem ssimplest_AH : ∀ (f : Nat) (k : Tr) (d : Int), sizeT k ≤ f → sizeT k ≤ 2000000 → 0 ≤ d → d ≤ 90 → k.bnd 1000000 → validS k d = true → FnH 14 [] [k.av] (simV (allF f k)) := by
  intro f
  induction f with
  | zero => intro k d h; have := sizeT_pos k; omega
  | succ f ih =>
  intro k d h hz h0 hd hb hv
  have ihF : ∀ (k : Tr) (d : Int), sizeT k ≤ f → sizeT k ≤ 2000000 → 0 ≤ d → d ≤ 90 → k.bnd 1000000 → validS k d = true → Fn 14 [k.av] (.tup [(allF f k).1.av, int (allF f k).2]) := fun k d a1 a2 a3 a4 a5 a6 =>
    AH.toF (by simp [plainL, Tr.plain_av]) (ih k d a1 a2 a3 a4 a5 a6) (fun r hp' h => simV.fz h)
  obtain ⟨kd, nm, t, ks⟩ := k
  obtain ⟨v1, v2, v3⟩ := validS_inv hv
  obtain ⟨b1', b2', b3'⟩ := hb
  have hs : sizeT (.mk kd nm t ks) = 1 + sizeTs ks := by rw [sizeT]
  have hlen := Tr.avs_length ks
  obtain ⟨c1, c2, c3, c4⟩ := allK_facts f (all_facts f) ks (d - 1) (by omega) (by omega) b3' v3
  have hob : Tr.bnd 1000000 (.mk kd nm t (allK f ks).1) := ⟨b1', by omega, c2⟩
  have hov := valid_same hv c1 c3
  have hos : sizeT (.mk kd nm t (allK f ks).1) = 1 + sizeTs (allK f ks).1 := by rw [sizeT]
  have hst := simpler_step h0 hob hov
  have hsf := simpler_facts hob hov
  have hkp := allK_pos f ks
  have hop := sizeTs_pos (allK f ks).1
  have sF : Fn 26 [Tr.av (.mk kd nm t (allK f ks).1)] (.tup [(simplerT (.mk kd nm t (allK f ks).1)).1.av, int (simplerT (.mk kd nm t (allK f ks).1)).2]) :=
    AH.toF (by simp [plainL, Tr.plain_av]) (ssimpler_AH _ d hob (by omega) hov) (fun r hp' h => simV.fz h)
  refine AH.intro Tryz.func14 nm14 rfl rfl rfl fun w0 ok0 own0 => ?_
  refine AWP.seq ?_
  refine AWP.region ?_
  refine AOps.box rfl rfl rfl rfl fun b1 => ?_
  refine AOps.alloc rfl z28 rfl rfl fun b2 => ?_
  refine Y (ass rfl) rfl ?_
  refine AOps.nil ?_
  refine AWP.seq ?_
  refine AWP.region ?_
  refine Y (Yields.load_ptr_agg (j := 1) kd28 rfl rfl rfl rfl) rfl ?_
  refine AOps.alloc rfl z28 rfl rfl fun b4 => ?_
  refine AOps.store (j := 0) kd28 rfl rfl rfl rfl rfl rfl ?_
  refine AOps.nil ?_
  refine AWP.seq ?_
  refine AWP.region ?_
  refine Y (Yields.fieldAddr_ptr fo28_3 rfl) rfl ?_
  refine AOps.storeField (j := 0) kd26 rfl rfl rfl rfl rfl rfl rfl ?_
  refine AOps.nil ?_
  refine AWP.seq ?_
  refine AWP.region ?_
  refine Y (ass rfl) rfl ?_
  refine AOps.nil ?_
  refine AWP.seq ?_
  refine AWP.seq ?_
  refine AWP.region ?_
  refine Y (ass rfl) rfl ?_
  refine AOps.nil ?_
  refine AWP.leads (Leads.rowWk 0 0 rfl rfl (Wk.agg (ps := [_, _, _, .loc none 0 0 0 4]) ⟨Wk.refl _, Wk.refl _, Wk.refl _, Wk.nilLoc (n := 4), trivial⟩)) ?_
  refine AWP.leads (Leads.row0 4) ?_
  refine AWP.block ?_
  refine AWP.loopV (α := Option Nat × List Tr × Int × Nat) (fun pp : Option Nat × List Tr × Int × Nat => match pp with | (B, ls, n, i) => ⟨[(1, .ptr (some b1) 0 0 4), (2, .ptr (some b2) 0 0 4), (4, .ptr (some b4) 0 0 4), (5, int n), (6, int i)], [(some b4, ⟨4, [.agg [int kd, int nm, str t, .loc B 0 ls.length ls.length 4]]⟩), (B, ⟨4, Tr.avs ls⟩), (some b1, ⟨4, [Tr.av (.mk kd nm t ks)]⟩), (some b2, ⟨4, [zero4]⟩)]⟩) (fun pp : Option Nat × List Tr × Int × Nat => match pp with | (B, ls, n, i) => i ≤ ks.length ∧ ls.length = i ∧ 0 ≤ n ∧ ls ++ (allK f (ks.drop i)).1 = (allK f ks).1 ∧ n + (allK f (ks.drop i)).2 = (allK f ks).2) (fun pp : Option Nat × List Tr × Int × Nat => match pp with | (B, ls, n, i) => ks.length - i) ((none, [], 0, 0)) ?_ ?_ ?_
  · exact Leads.keepR (KeepR.cons 1 rfl (KeepR.cons 0 rfl (KeepR.cons 1 rfl (KeepR.cons 0 rfl KeepR.nil)))) ⟨rfl, rfl, rfl, rfl, rfl, trivial⟩
  ·
   show 0 ≤ ks.length ∧ ([]).length = 0 ∧ 0 ≤ 0 ∧ ([]) ++ (allK f (ks.drop 0)).1 = (allK f ks).1 ∧ 0 + (allK f (ks.drop 0)).2 = (allK f ks).2
   exact ⟨Nat.zero_le _, rfl, Int.le_refl _, by simp, by simp⟩
  ·
   rintro ⟨B, ls, n, i⟩ hinv
   replace hinv : i ≤ ks.length ∧ ls.length = i ∧ 0 ≤ n ∧ ls ++ (allK f (ks.drop i)).1 = (allK f ks).1 ∧ n + (allK f (ks.drop i)).2 = (allK f ks).2 := hinv
   show AWP _ _ _ _ ⟨[(1, .ptr (some b1) 0 0 4), (2, .ptr (some b2) 0 0 4), (4, .ptr (some b4) 0 0 4), (5, int n), (6, int i)], [(some b4, ⟨4, [.agg [int kd, int nm, str t, .loc B 0 ls.length ls.length 4]]⟩), (B, ⟨4, Tr.avs ls⟩), (some b1, ⟨4, [Tr.av (.mk kd nm t ks)]⟩), (some b2, ⟨4, [zero4]⟩)]⟩
   refine AWP.seq ?_
   refine AWP.seq ?_
   refine AWP.region ?_
   obtain ⟨hi, hll, hn, ha1, ha2⟩ := hinv
   refine Y (mv rfl) rfl ?_
   refine Y (Yields.fieldAddr_ptr fo28_3 rfl) rfl ?_
   refine Y (Yields.load_ptr_field (j := 2) kd26 rfl rfl rfl rfl rfl rfl rfl) rfl ?_
   refine Y (Yields.len_ro sl26 rfl) rfl ?_
   refine Y (bn rfl rfl BinR.lss rfl) rfl ?_
   refine AOps.nil ?_
   refine AWP.condT rfl (fun g => ?_) (fun g => ?_)
   ·
    replace g := of_decide_eq_true g
    obtain ⟨⟨xk, xn, xt, xks⟩, hx, hdx⟩ := drop_at (l := ks) (i := i) (by omega)
    have hxb := Tr.bnds_get b3' hx
    have hxv := validSs_get v3 hx
    have hxs := sizeTs_at' hx
    have hxp := sizeT_pos (.mk xk xn xt xks)
    have hap := allF_pos f (.mk xk xn xt xks)
    have hkd := allK_pos f (ks.drop (i + 1))
    have xF := ihF (.mk xk xn xt xks) (d - 1) (by omega) (by omega) (by omega) (by omega) hxb hxv
    rw [hdx, allK] at ha1 ha2
    replace ha1 : ls ++ ((allF f (.mk xk xn xt xks)).1 :: (allK f (ks.drop (i + 1))).1) = (allK f ks).1 := ha1
    replace ha2 : n + ((allF f (.mk xk xn xt xks)).2 + (allK f (ks.drop (i + 1))).2) = (allK f ks).2 := ha2
    refine pairElim (allF f (.mk xk xn xt xks)) fun zk zn zt zks m hzz => ?_
    rw [hzz] at xF ha1 ha2 hap
    replace hap : 0 ≤ m := hap
    replace ha1 : ls ++ ((.mk zk zn zt zks) :: (allK f (ks.drop (i + 1))).1) = (allK f ks).1 := ha1
    replace ha2 : n + (m + (allK f (ks.drop (i + 1))).2) = (allK f ks).2 := ha2
    refine AWP.skip ?_
    refine AWP.seq ?_
    refine AWP.block ?_
    refine AWP.seq ?_
    refine AWP.region ?_
    refine Y (Yields.fieldAddr_ptr fo28_3 rfl) rfl ?_
    refine Y (Yields.load_ptr_field (j := 2) kd26 rfl rfl rfl rfl rfl rfl rfl) rfl ?_
    refine Y (mv rfl) rfl ?_
    refine Y (Yields.idx_roN sl26 rfl rfl rfl rfl (by omega)) rfl ?_
    refine Y (Yields.load_rop_aggV kd28 rfl (Tr.avs_at hx) rfl) rfl ?_
    refine AOps.callro (xF) rfl rfl rfl ?_
    refine Y (mv rfl) rfl ?_
    refine Y (Yields.extract rfl rfl) rfl ?_
    refine Y (Yields.extract rfl rfl) rfl ?_
    refine AOps.alloc rfl z28 rfl rfl fun b7 => ?_
    refine AOps.store (j := 0) kd28 rfl rfl rfl rfl rfl rfl ?_
    refine Y (ass rfl) rfl ?_
    refine AOps.nil ?_
    refine AWP.seq ?_
    refine AWP.region ?_
    refine Y (Yields.fieldAddr_ptr fo28_3 rfl) rfl ?_
    refine Y (Yields.load_ptr_field (j := 1) kd26 rfl rfl rfl rfl rfl rfl rfl) rfl ?_
    refine Y (Yields.load_ptr_agg (j := 0) kd28 rfl rfl rfl rfl) rfl ?_
    refine AOps.buildSlice sl26 z28 rfl rfl rfl rfl rfl fun Bs => ?_
    refine AOps.appendE (j := 3) sl26 z28 rfl rfl rfl rfl rfl (Tr.avs_length ls) rfl (src_row (j2 := 0) rfl rfl rfl) (show ls.length + 1 = (ls ++ [Tr.mk zk zn zt zks]).length by simp) (avs_snoc' ls (.mk zk zn zt zks)) (by simp; omega) (by simp; omega) fun Bn => ?_
    refine Y (Yields.fieldAddr_ptr fo28_3 rfl) rfl ?_
    refine AOps.storeField (j := 2) kd26 rfl rfl rfl rfl rfl rfl rfl ?_
    refine AOps.nil ?_
    refine AWP.region ?_
    refine Y (mv rfl) rfl ?_
    refine Y (mv rfl) rfl ?_
    refine Y (bn rfl rfl (BinR.addI (by omega) (by omega)) rfl) rfl ?_
    refine Y (ass rfl) rfl ?_
    refine AOps.nil ?_
    refine AWP.region ?_
    refine Y (mv rfl) rfl ?_
    refine Y (bn rfl rfl (BinR.addI (by omega) (by omega)) rfl) rfl ?_
    refine Y (ass rfl) rfl ?_
    refine AOps.nil ?_
    refine ⟨(Bn, ls ++ [Tr.mk zk zn zt zks], n + m, i + 1), ?_, ?_, ?_⟩
    ·
     show ks.length - (i + 1) < ks.length - i
     omega
    ·
     show (i + 1) ≤ ks.length ∧ (ls ++ [Tr.mk zk zn zt zks]).length = (i + 1) ∧ 0 ≤ (n + m) ∧ (ls ++ [Tr.mk zk zn zt zks]) ++ (allK f (ks.drop (i + 1))).1 = (allK f ks).1 ∧ (n + m) + (allK f (ks.drop (i + 1))).2 = (allK f ks).2
     exact ⟨by omega, by simp; omega, by omega, by rw [← ha1]; simp, by omega⟩
    · exact Leads.keepR (KeepR.cons 2 rfl (KeepR.cons 2 rfl (KeepR.cons 2 rfl (KeepR.cons 2 rfl KeepR.nil)))) ⟨rfl, rfl, rfl, rfl, rfl, trivial⟩
   ·
    replace g := of_decide_eq_false g
    rw [List.drop_eq_nil_of_le (by omega), allK] at ha1 ha2
    replace ha1 : ls = (allK f ks).1 := by simpa using ha1
    replace ha2 : n = (allK f ks).2 := by simpa using ha2
    rw [← ha1] at sF hob hov hos hst hsf c1 c2 c3 c4
    refine AWP.exit ?_
    refine AWP.seq ?_
    refine AWP.region ?_
    refine AOps.leads (Leads.pull 1 rfl) ?_
    refine AOps.leads (Leads.freezeRow 1 0 0 (.inl trivial) rfl rfl rfl (fz_node' rfl)) ?_
    have hall := show allF (f + 1) (.mk kd nm t ks) = _ from by rw [allF]
    rw [← ha1, ← ha2] at hall
    refine pairElim (simplerT (.mk kd nm t ls)) fun yk yn yt yks m hyy => ?_
    rw [hyy] at sF hst hsf hall
    replace hall : allF (f + 1) (.mk kd nm t ks) = if m = 0 then (.mk kd nm t ls, n) else ((allF f (.mk yk yn yt yks)).1, n + 1 + (allF f (.mk yk yn yt yks)).2) := hall
    refine Y (Yields.load_ptr_agg (j := 0) kd28 rfl rfl rfl rfl) rfl ?_
    refine AOps.callro (sF) rfl rfl rfl ?_
    refine Y (mv rfl) rfl ?_
    refine Y (Yields.extract rfl rfl) rfl ?_
    refine Y (Yields.extract rfl rfl) rfl ?_
    refine AOps.alloc rfl z28 rfl rfl fun b10 => ?_
    refine AOps.store (j := 0) kd28 rfl rfl rfl rfl rfl rfl ?_
    refine Y (ass rfl) rfl ?_
    refine AOps.nil ?_
    refine AWP.seq ?_
    refine AWP.seq ?_
    refine AWP.region ?_
    refine Y (mv rfl) rfl ?_
    refine Y (bn rfl rfl BinR.eql rfl) rfl ?_
    refine AOps.nil ?_
    refine AWP.condT rfl (fun e => ?_) (fun e => ?_)
    ·
     replace e := eq_of_beq e
     refine AWP.seq ?_
     refine AWP.region ?_
     refine Y (Yields.load_ptr_agg (j := 1) kd28 rfl rfl rfl rfl) rfl ?_
     refine Y (mv rfl) rfl ?_
     refine AOps.store (j := 3) kd28 rfl rfl rfl rfl rfl rfl ?_
     refine Y (ass rfl) rfl ?_
     refine AOps.nil ?_
     refine AWP.ret ⟨.inl rfl, ?_⟩
     exact RetH.of (rs := [.cell 2 28, .tmp 3]) (vs := [_, _]) rfl ⟨resOne.cell (j := 3) rfl rfl kd28 rfl rfl rfl, rfl, trivial⟩ KeepR.nil (⟨by rw [hall, if_pos e]; rfl, rfl⟩)
    ·
     replace e := ne_of_beq_false e
     rw [if_neg e] at hall
     have hlt : sizeT (.mk yk yn yt yks) < sizeT (.mk kd nm t ls) := hst.2 e
     have hyF := ihF (.mk yk yn yt yks) d (by omega) (by omega) h0 hd hsf.1 hst.1
     obtain ⟨q1, q2, q3⟩ := all_facts f (.mk yk yn yt yks) d (by omega) h0 hsf.1 hst.1
     have q4 := sizeT_pos (allF f (.mk yk yn yt yks)).1
     have q5 := allF_pos f (.mk yk yn yt yks)
     refine pairElim (allF f (.mk yk yn yt yks)) fun wk wn wt wks m2 hww => ?_
     rw [hww] at hyF hall q3 q4 q5
     replace q3 : sizeT (.mk wk wn wt wks) + m2 ≤ sizeT (.mk yk yn yt yks) := q3
     replace q4 : 1 ≤ sizeT (.mk wk wn wt wks) := q4
     replace q5 : 0 ≤ m2 := q5
     replace hall : allF (f + 1) (.mk kd nm t ks) = (.mk wk wn wt wks, n + 1 + m2) := hall
     refine AWP.skip ?_
     refine AWP.seq ?_
     refine AWP.region ?_
     refine Y (Yields.load_ptr_agg (j := 0) kd28 rfl rfl rfl rfl) rfl ?_
     refine AOps.callro (hyF) rfl rfl rfl ?_
     refine Y (mv rfl) rfl ?_
     refine Y (Yields.extract rfl rfl) rfl ?_
     refine Y (Yields.extract rfl rfl) rfl ?_
     refine AOps.alloc rfl z28 rfl rfl fun b11 => ?_
     refine AOps.store (j := 0) kd28 rfl rfl rfl rfl rfl rfl ?_
     refine Y (ass rfl) rfl ?_
     refine AOps.nil ?_
     refine AWP.seq ?_
     refine AWP.region ?_
     refine Y (Yields.load_ptr_agg (j := 0) kd28 rfl rfl rfl rfl) rfl ?_
     refine Y (mv rfl) rfl ?_
     refine Y (bn rfl rfl (BinR.addI (by omega) (by omega)) rfl) rfl ?_
     refine Y (mv rfl) rfl ?_
     refine Y (bn rfl rfl (BinR.addI (by omega) (by omega)) rfl) rfl ?_
     refine AOps.store (j := 4) kd28 rfl rfl rfl rfl rfl rfl ?_
     refine Y (ass rfl) rfl ?_
     refine AOps.nil ?_
     refine AWP.ret ⟨.inl rfl, ?_⟩
     exact RetH.of (rs := [.cell 2 28, .tmp 3]) (vs := [_, _]) rfl ⟨resOne.cell (j := 4) rfl rfl kd28 rfl rfl rfl, rfl, trivial⟩ KeepR.nil (⟨by rw [hall]; rfl, rfl⟩)
def simA (k : Tr) : Tr × Int := if okE k = true then allF (sizeT k).toNat k else (nilTr, -1)
theorem simA_no {k : Tr} (h : okE k = false) : simA k = (nilTr, -1) := if_neg (by rw [h]; simp)
theorem simA_facts {k : Tr} (hk : k.bnd 1000000) : (simA k).1.bnd 1000000 ∧ sizeT (simA k).1 ≤ sizeT k := by
  have := sizeT_pos k
  unfold simA
  split
  · rename_i h
    obtain ⟨a1, a2, a3⟩ := all_facts (sizeT k).toNat k 9 (by omega) (by omega) hk (okE_valid h)
    have := allF_pos (sizeT k).toNat k
    exact ⟨a1, by omega⟩
  · exact ⟨⟨by decide, by simp, trivial⟩, by show sizeT nilTr ≤ _; rw [nilTr, sizeT, sizeTs]; omega⟩
theorem iSimpleAll_AH (k : Tr) (hk : k.bnd 1000000) (hz : sizeT k ≤ 2000000) : FnH 7 [] [k.av] (ownTI (simA k)) := by
  have okF := iExprOk_AF' k hk
  have hsp := sizeT_pos k
  have hsf := simA_facts hk
  have sA := fun (h : okE k = true) => isimplest_AH (sizeT k).toNat k 9 (by omega) hz (by omega) (by omega) hk (okE_valid h)
  have sP : plainL [k.av] = true := by simp [plainL, Tr.plain_av]
  obtain ⟨kd, nm, t, ks⟩ := k
  refine AH.intro Tryz.func7 nm7 rfl rfl rfl fun w0 ok0 own0 => ?_
  refine AWP.seq ?_
  refine AWP.region ?_
  refine AOps.box rfl rfl rfl rfl fun b1 => ?_
  refine AOps.alloc rfl z28 rfl rfl fun b2 => ?_
  refine Y (ass rfl) rfl ?_
  refine AOps.nil ?_
  refine AWP.seq ?_
  refine AWP.seq ?_
  refine AWP.region ?_
  refine Y (Yields.load_ptr_agg (j := 1) kd28 rfl rfl rfl rfl) rfl ?_
  refine AOps.callro (okF) rfl rfl rfl ?_
  refine Y (Yields.not rfl) rfl ?_
  refine AOps.nil ?_
  refine AWP.condT rfl (fun h => ?_) (fun h => ?_)
  ·
   skip
   refine AWP.seq ?_
   refine AWP.region ?_
   have h : okE (.mk kd nm t ks) = false := by simpa using h
   refine Y (Yields.build pl28 z28 rfl rfl) rfl ?_
   refine AOps.store (j := 0) kd28 rfl rfl rfl rfl rfl rfl ?_
   refine Y (ass rfl) rfl ?_
   refine AOps.nil ?_
   refine AWP.leads (Leads.rowWk 0 0 rfl rfl (Wk.agg (ps := [_, _, _, .loc none 0 0 0 4]) ⟨Wk.refl _, Wk.refl _, Wk.refl _, Wk.nilLoc (n := 4), trivial⟩)) ?_
   refine AWP.leads (Leads.row0 4) ?_
   refine AWP.ret ⟨.inl rfl, ?_⟩
   exact RetH.of (rs := [.cell 2 28, .tmp 3]) (vs := [_, _]) rfl ⟨resOne.cell (j := 1) rfl rfl kd28 rfl rfl rfl, rfl, trivial⟩ (KeepR.cons 0 rfl KeepR.nil) (⟨none, by rw [simA_no h]; rfl, by rw [simA_no h]; rfl⟩)
  ·
   skip
   have h : okE (.mk kd nm t ks) = true := by simpa using h
   have sF := AH.toF sP (sA h) (fun r hp' h => simV.fz h)
   have he : simA (.mk kd nm t ks) = allF (sizeT (.mk kd nm t ks)).toNat (.mk kd nm t ks) := by rw [simA, if_pos h]
   rw [he] at hsf
   rw [he]
   refine pairElim (allF (sizeT (.mk kd nm t ks)).toNat (.mk kd nm t ks)) fun zk zn zt zks m hzz => ?_
   rw [hzz] at sF hsf
   rw [hzz]
   refine AWP.skip ?_
   refine AWP.seq ?_
   refine AWP.region ?_
   refine Y (Yields.load_ptr_agg (j := 1) kd28 rfl rfl rfl rfl) rfl ?_
   refine AOps.callro (sF) rfl rfl rfl ?_
   refine Y (mv rfl) rfl ?_
   refine Y (Yields.extract rfl rfl) rfl ?_
   refine Y (Yields.extract rfl rfl) rfl ?_
   refine AOps.alloc rfl z28 rfl rfl fun b4 => ?_
   refine AOps.store (j := 0) kd28 rfl rfl rfl rfl rfl rfl ?_
   refine Y (ass rfl) rfl ?_
   refine AOps.nil ?_
   refine AWP.seq ?_
   refine AWP.region ?_
   refine Y (Yields.load_ptr_agg (j := 0) kd28 rfl rfl rfl rfl) rfl ?_
   refine AOps.callH (.inl trivial) (icopied_AH (.mk zk zn zt zks) hsf.1) rfl rfl rfl (WkL.refl _) ?_
   rintro _ _ ⟨Bc, rfl, rfl⟩
   refine Y (mv rfl) rfl ?_
   refine AOps.store (j := 2) kd28 rfl rfl rfl rfl rfl rfl ?_
   refine Y (ass rfl) rfl ?_
   refine AOps.nil ?_
   refine AWP.ret ⟨.inl rfl, ?_⟩
   exact RetH.of (rs := [.cell 2 28, .tmp 3]) (vs := [_, _]) rfl ⟨resOne.cell (j := 2) rfl rfl kd28 rfl rfl rfl, rfl, trivial⟩ (KeepR.cons 0 rfl KeepR.nil) (⟨Bc, rfl, rfl⟩)
theorem sSimpleAll_AH (k : Tr) (hk : k.bnd 1000000) (hz : sizeT k ≤ 2000000) : FnH 5 [] [k.av] (ownTI (simA k)) := by
  have okF := sExprOk_AF k hk hz
  have hsp := sizeT_pos k
  have hsf := simA_facts hk
  have sA := fun (h : okE k = true) => ssimplest_AH (sizeT k).toNat k 9 (by omega) hz (by omega) (by omega) hk (okE_valid h)
  have sP : plainL [k.av] = true := by simp [plainL, Tr.plain_av]
  obtain ⟨kd, nm, t, ks⟩ := k
  refine AH.intro Tryz.func5 nm5 rfl rfl rfl fun w0 ok0 own0 => ?_
  refine AWP.seq ?_
  refine AWP.region ?_
  refine AOps.box rfl rfl rfl rfl fun b1 => ?_
  refine AOps.alloc rfl z28 rfl rfl fun b2 => ?_
  refine Y (ass rfl) rfl ?_
  refine AOps.nil ?_
  refine AWP.seq ?_
  refine AWP.seq ?_
  refine AWP.region ?_
  refine Y (Yields.load_ptr_agg (j := 1) kd28 rfl rfl rfl rfl) rfl ?_
  refine AOps.callro (okF) rfl rfl rfl ?_
  refine Y (Yields.not rfl) rfl ?_
  refine AOps.nil ?_
  refine AWP.condT rfl (fun h => ?_) (fun h => ?_)
  ·
   skip
   refine AWP.seq ?_
   refine AWP.region ?_
   have h : okE (.mk kd nm t ks) = false := by simpa using h
   refine Y (Yields.build pl28 z28 rfl rfl) rfl ?_
   refine AOps.store (j := 0) kd28 rfl rfl rfl rfl rfl rfl ?_
   refine Y (ass rfl) rfl ?_
   refine AOps.nil ?_
   refine AWP.leads (Leads.rowWk 0 0 rfl rfl (Wk.agg (ps := [_, _, _, .loc none 0 0 0 4]) ⟨Wk.refl _, Wk.refl _, Wk.refl _, Wk.nilLoc (n := 4), trivial⟩)) ?_
   refine AWP.leads (Leads.row0 4) ?_
   refine AWP.ret ⟨.inl rfl, ?_⟩
   exact RetH.of (rs := [.cell 2 28, .tmp 3]) (vs := [_, _]) rfl ⟨resOne.cell (j := 1) rfl rfl kd28 rfl rfl rfl, rfl, trivial⟩ (KeepR.cons 0 rfl KeepR.nil) (⟨none, by rw [simA_no h]; rfl, by rw [simA_no h]; rfl⟩)
  ·
   skip
   have h : okE (.mk kd nm t ks) = true := by simpa using h
   have sF := AH.toF sP (sA h) (fun r hp' h => simV.fz h)
   have he : simA (.mk kd nm t ks) = allF (sizeT (.mk kd nm t ks)).toNat (.mk kd nm t ks) := by rw [simA, if_pos h]
   rw [he] at hsf
   rw [he]
   refine pairElim (allF (sizeT (.mk kd nm t ks)).toNat (.mk kd nm t ks)) fun zk zn zt zks m hzz => ?_
   rw [hzz] at sF hsf
   rw [hzz]
   refine AWP.skip ?_
   refine AWP.seq ?_
   refine AWP.region ?_
   refine Y (Yields.load_ptr_agg (j := 1) kd28 rfl rfl rfl rfl) rfl ?_
   refine AOps.callro (sF) rfl rfl rfl ?_
   refine Y (mv rfl) rfl ?_
   refine Y (Yields.extract rfl rfl) rfl ?_
   refine Y (Yields.extract rfl rfl) rfl ?_
   refine AOps.alloc rfl z28 rfl rfl fun b4 => ?_
   refine AOps.store (j := 0) kd28 rfl rfl rfl rfl rfl rfl ?_
   refine Y (ass rfl) rfl ?_
   refine AOps.nil ?_
   refine AWP.seq ?_
   refine AWP.region ?_
   refine Y (Yields.load_ptr_agg (j := 0) kd28 rfl rfl rfl rfl) rfl ?_
   refine AOps.callH (.inl trivial) (scopied_AH (.mk zk zn zt zks) hsf.1) rfl rfl rfl (WkL.refl _) ?_
   rintro _ _ ⟨Bc, rfl, rfl⟩
   refine Y (mv rfl) rfl ?_
   refine AOps.store (j := 2) kd28 rfl rfl rfl rfl rfl rfl ?_
   refine Y (ass rfl) rfl ?_
   refine AOps.nil ?_
   refine AWP.ret ⟨.inl rfl, ?_⟩
   exact RetH.of (rs := [.cell 2 28, .tmp 3]) (vs := [_, _]) rfl ⟨resOne.cell (j := 2) rfl rfl kd28 rfl rfl rfl, rfl, trivial⟩ (KeepR.cons 0 rfl KeepR.nil) (⟨Bc, rfl, rfl⟩)
theorem iSimpleAll_AF (k : Tr) (hk : k.bnd 1000000) (hz : sizeT k ≤ 2000000) : Fn 7 [k.av] (.tup [(simA k).1.av, int (simA k).2]) :=
  AH.toF (by simp [plainL, Tr.plain_av]) (iSimpleAll_AH k hk hz) (fun r hp' h => ownTI.fz h)
theorem sSimpleAll_AF (k : Tr) (hk : k.bnd 1000000) (hz : sizeT k ≤ 2000000) : Fn 5 [k.av] (.tup [(simA k).1.av, int (simA k).2]) :=
  AH.toF (by simp [plainL, Tr.plain_av]) (sSimpleAll_AH k hk hz) (fun r hp' h => ownTI.fz h)
end Go.Proofs.YtccdgppplkfjfaaGreat
