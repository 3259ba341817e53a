/- What is shared best. -/
import Derived.Test.YteieleejhbljfaaGreatHas
namespace Go.Proofs.YteieleejhbljfaaGreat
open Go Go.Ax Go.Proofs
set_option linter.unusedVariables false
set_option linter.unusedSimpArgs false
set_option maxRecDepth 20000
def wonT (k : Tr) (w : List Int) : Int := (((sharedT k w).length : Int) - 1) * (sizeT (atV k w) - 1)
def goodW (k : Tr) (w : List Int) : Bool := plainX (atV k w) && (decide (2 ≤ sizeT (atV k w)) && decide (2 ≤ (sharedT k w).length))
def bestS (k : Tr) : List (List Int) → List Int × Int → List Int × Int
  | [], a => a
  | w :: ws, a => bestS k ws (if goodW k w = true ∧ a.2 < wonT k w then (w, wonT k w) else a)
theorem bestS_no {k : Tr} {w : List Int} {ws : List (List Int)} {a : List Int × Int} (h : ¬ (goodW k w = true ∧ a.2 < wonT k w)) : bestS k (w :: ws) a = bestS k ws a := by rw [bestS, if_neg h]
theorem bestS_yes {k : Tr} {w : List Int} {ws : List (List Int)} {a : List Int × Int} (h : goodW k w = true ∧ a.2 < wonT k w) : bestS k (w :: ws) a = bestS k ws (w, wonT k w) := by rw [bestS, if_pos h]
def bestE (k : Tr) : List Int × Int := if okE k = true then bestS k (pathsT k) ([], 0) else ([], 0)
theorem bestE_no {k : Tr} (h : okE k = false) : bestE k = ([], 0) := if_neg (by rw [h]; simp)
theorem bestS_mem (k : Tr) (n : Nat) : ∀ (ws : List (List Int)) (a : List Int × Int), (∀ w ∈ ws, w.length ≤ n) → a.1.length ≤ n → (bestS k ws a).1.length ≤ n
  | [], a, h, h2 => h2
  | w :: ws, a, h, h2 => by
    rw [bestS]
    refine bestS_mem k n ws _ (fun u hu => h u (List.mem_cons_of_mem _ hu)) ?_
    split
    · exact h w List.mem_cons_self
    · exact h2
theorem bestE_length (k : Tr) (n : Nat) (h : sizeT k ≤ n) : (bestE k).1.length ≤ n := by
  unfold bestE
  split
  · exact bestS_mem k n _ _ (fun w hw => by have := pathsT_short k w hw; omega) (Nat.zero_le _)
  · exact Nat.zero_le _
theorem won_le {a b : Int} (h0 : 0 ≤ a) (h1 : a ≤ 1000001) (h2 : 0 ≤ b) (h3 : b ≤ 1000001) : 0 ≤ a * b ∧ a * b ≤ 1000001 * 1000001 :=
  ⟨Int.mul_nonneg h0 h2, Int.mul_le_mul h1 h3 h2 (by omega)⟩
def ownPB (p : List Int) (b : Bool) : AV → Hp → Prop := fun r hp' => ∃ B : Option Nat, r = .tup [.loc B 0 p.length p.length 1, bool b] ∧ hp' = [(B, ⟨1, ints p⟩)]
theorem ownPB.fz {p : List Int} {b : Bool} {r : AV} {hp' : Hp} (h : ownPB p b r hp') : Fz hp' r (.tup [.ro 1 (ints p) [] false, bool b]) := by
  obtain ⟨B, rfl, rfl⟩ := h
  exact Fz.tup ⟨(bor_intsN (j := 0) rfl rfl).fz, Fz.refl, trivial⟩
theorem iSharedBest_AH (k : Tr) (hk : k.bnd 1000000) (hz : sizeT k ≤ 1000001) : FnH 18 [] [k.av] (ownPB (bestE k).1 (decide (0 < (bestE k).2))) := by
  have hpl := pathsT_length k
  have hpa := pathsT_at k
  have hps := pathsT_short k
  obtain ⟨kd, nm, t, ks⟩ := k
  obtain ⟨L, hL⟩ : ∃ L, pathsT (.mk kd nm t ks) = L := ⟨_, rfl⟩
  have pH := ipaths_AH (.mk kd nm t ks) hk (by omega)
  rw [hL] at pH
  have hLl : L.length ≤ 1000001 := by rw [hL] at hpl; omega
  refine AH.intro Tryz.func18 nm18 rfl rfl rfl fun w0 ok0 own0 => ?_
  refine AWP.seq ?_
  refine AWP.region ?_
  refine AOps.box rfl rfl rfl rfl fun b1 => ?_
  refine Y (ass rfl) rfl ?_
  refine Y (ass rfl) rfl ?_
  refine AOps.nil ?_
  refine AWP.seq ?_
  refine AWP.seq ?_
  refine AWP.region ?_
  refine Y (Yields.load_ptr_agg (j := 0) kd25 rfl rfl rfl rfl) rfl ?_
  refine AOps.callro (iExprOk_AF' (.mk kd nm t ks) hk) rfl rfl rfl ?_
  refine Y (Yields.not rfl) rfl ?_
  refine AOps.nil ?_
  refine AWP.condT rfl (fun h => ?_) (fun h => ?_)
  ·
   skip
   refine AWP.seq ?_
   refine AWP.region ?_
   have h : okE (.mk kd nm t ks) = false := by simpa using h
   refine Y (ass rfl) rfl ?_
   refine Y (ass rfl) rfl ?_
   refine AOps.nil ?_
   refine AWP.leads (Leads.own0 2 1 rfl) ?_
   refine AWP.ret ⟨.inl rfl, ?_⟩
   exact RetH.of (rs := [.tmp 2, .tmp 3]) (vs := [_, _]) rfl ⟨rfl, rfl, trivial⟩ (KeepR.cons 0 rfl KeepR.nil) (⟨none, by rw [bestE_no h]; rfl, by rw [bestE_no h]; rfl⟩)
  ·
   skip
   have h : okE (.mk kd nm t ks) = true := by simpa using h
   refine AWP.skip ?_
   refine AWP.seq ?_
   refine AWP.region ?_
   refine Y (ass rfl) rfl ?_
   refine Y (ass rfl) rfl ?_
   refine AOps.nil ?_
   refine AWP.seq ?_
   refine AWP.seq ?_
   refine AWP.region ?_
   refine Y (Yields.load_ptr_agg (j := 0) kd25 rfl rfl rfl rfl) rfl ?_
   refine AOps.callH (.inl trivial) (pH) rfl rfl rfl (WkL.refl _) ?_
   rintro _ _ ⟨Bp, rfl, rfl⟩
   refine Y (Yields.len_loc sl35 rfl) rfl ?_
   refine Y (mv rfl) rfl ?_
   refine AOps.nil ?_
   refine AWP.leads (Leads.own0 4 1 rfl) ?_
   refine AWP.block ?_
   refine AWP.loopV (α := Option Nat × Option Nat × List Int × Int × List AV × List (List Int) × Nat) (fun pp : Option Nat × Option Nat × List Int × Int × List AV × List (List Int) × Nat => match pp with | (B, Bp, q, most, pre, R, i) => ⟨[(1, .ptr (some b1) 0 0 4), (4, .loc B 0 q.length q.length 1), (5, int most), (15, .loc Bp 0 L.length L.length 1), (16, int L.length), (17, int i)], [(B, ⟨1, ints q⟩), (Bp, ⟨1, pre ++ rowsO R⟩), (some b1, ⟨4, [Tr.av (.mk kd nm t ks)]⟩)]⟩) (fun pp : Option Nat × Option Nat × List Int × Int × List AV × List (List Int) × Nat => match pp with | (B, Bp, q, most, pre, R, i) => pre.length = i ∧ i + R.length = L.length ∧ bestS (.mk kd nm t ks) R (q, most) = bestS (.mk kd nm t ks) L ([], 0) ∧ ∀ w ∈ R, w ∈ L) (fun pp : Option Nat × Option Nat × List Int × Int × List AV × List (List Int) × Nat => match pp with | (B, Bp, q, most, pre, R, i) => L.length - i) ((none, Bp, [], 0, [], L, 0)) ?_ ?_ ?_
   · exact Leads.keepR (KeepR.cons 0 rfl (KeepR.cons 0 rfl (KeepR.cons 0 rfl KeepR.nil))) ⟨rfl, rfl, rfl, rfl, rfl, rfl, trivial⟩
   ·
    show ([]).length = 0 ∧ 0 + L.length = L.length ∧ bestS (.mk kd nm t ks) L (([]), 0) = bestS (.mk kd nm t ks) L ([], 0) ∧ ∀ w ∈ L, w ∈ L
    exact ⟨rfl, by simp, rfl, fun w hw => hw⟩
   ·
    rintro ⟨B, Bp, q, most, pre, R, i⟩ hinv
    replace hinv : pre.length = i ∧ i + R.length = L.length ∧ bestS (.mk kd nm t ks) R (q, most) = bestS (.mk kd nm t ks) L ([], 0) ∧ ∀ w ∈ R, w ∈ L := hinv
    show AWP _ _ _ _ ⟨[(1, .ptr (some b1) 0 0 4), (4, .loc B 0 q.length q.length 1), (5, int most), (15, .loc Bp 0 L.length L.length 1), (16, int L.length), (17, int i)], [(B, ⟨1, ints q⟩), (Bp, ⟨1, pre ++ rowsO R⟩), (some b1, ⟨4, [Tr.av (.mk kd nm t ks)]⟩)]⟩
    refine AWP.seq ?_
    refine AWP.region ?_
    obtain ⟨hpre, hR, hf, hw⟩ := hinv
    refine Y (bn rfl rfl BinR.lss rfl) rfl ?_
    refine AOps.nil ?_
    refine AWP.seq ?_
    refine AWP.condT rfl (fun g => ?_) (fun g => ?_)
    ·
     replace g := of_decide_eq_true g
     refine AWP.skip ?_
     refine AWP.seq ?_
     obtain ⟨w, R', rfl⟩ : ∃ w R', R = w :: R' := by cases R with | nil => (simp at hR; omega) | cons a b => exact ⟨a, b, rfl⟩
     simp only [List.length_cons] at hR
     have hwL := hw w List.mem_cons_self
     have hws : (atT (.mk kd nm t ks) w).isSome = true := hpa w (hL ▸ hwL)
     have hwl := hps w (hL ▸ hwL)
     obtain ⟨⟨zk, zn, zt, zks⟩, hz1⟩ := Option.isSome_iff_exists.1 hws
     have hze : atV (.mk kd nm t ks) w = (.mk zk zn zt zks) := by rw [atV, hz1]; rfl
     have hzb := atV_bnd w (.mk kd nm t ks) hk _ hz1
     have hzs := atT_size w (.mk kd nm t ks) _ hz1
     have hzp := sizeT_pos (.mk zk zn zt zks)
     have hlw := ints_length w
     have hsl := sharedT_length (.mk kd nm t ks) w
     have hge : goodW (.mk kd nm t ks) w = (plainX (.mk zk zn zt zks) && (decide (2 ≤ sizeT (.mk zk zn zt zks)) && decide (2 ≤ (sharedT (.mk kd nm t ks) w).length))) := by rw [goodW, hze]
     have hwe : wonT (.mk kd nm t ks) w = (((sharedT (.mk kd nm t ks) w).length : Int) - 1) * (sizeT (.mk zk zn zt zks) - 1) := by rw [wonT, hze]
     refine AWP.someRow 1 rfl (by intro e; have e := congrArg List.length e; simp [rowsO] at e) fun bp hsr => ?_
     subst hsr
     refine AWP.unseal 1 i rfl (getPre hpre) (OpenTo.ownV (m := 1) (ys := ints w)) fun Bi => ?_
     refine AWP.leads (Leads.rowEq 2 rfl (setPre hpre)) ?_
     refine AWP.block ?_
     refine AWP.seq ?_
     refine AWP.region ?_
     refine Y (Yields.idx_locN sl35 rfl rfl (j := i) rfl (by omega)) rfl ?_
     refine Y (Yields.load_ptr_one (j := 2) kd32 rfl rfl (getPre2 hpre) rfl rfl) rfl ?_
     refine AOps.leads (Leads.same (t := 20) rfl (show AV.loc Bi 0 (ints w).length (ints w).length 1 = .loc Bi 0 w.length w.length 1 by rw [hlw])) ?_
     have rF := iatR_AH (.mk kd nm t ks) hk Bi w (by omega)
     rw [hze, hws] at rF
     refine Y (ass rfl) rfl ?_
     refine AOps.nil ?_
     refine AWP.seq ?_
     refine AWP.region ?_
     refine Y (Yields.load_ptr_agg (j := 3) kd25 rfl rfl rfl rfl) rfl ?_
     refine Y (mv rfl) rfl ?_
     refine AOps.callH (.inl trivial) (rF) rfl rfl rfl (WkL.refl _) ?_
     rintro _ _ ⟨rfl, rfl⟩
     refine Y (mv rfl) rfl ?_
     refine Y (Yields.extract rfl rfl) rfl ?_
     refine Y (Yields.extract rfl rfl) rfl ?_
     refine AOps.alloc rfl z25 rfl rfl fun b8 => ?_
     refine AOps.store (j := 0) kd25 rfl rfl rfl rfl rfl rfl ?_
     refine Y (ass rfl) rfl ?_
     refine AOps.nil ?_
     refine AWP.seq ?_
     refine AWP.seq ?_
     refine AWP.region ?_
     refine Y (Yields.load_ptr_agg (j := 0) kd25 rfl rfl rfl rfl) rfl ?_
     refine AOps.callro (iplain_AF (.mk zk zn zt zks) hzb) rfl rfl rfl ?_
     refine Y (Yields.not rfl) rfl ?_
     refine Y (mv rfl) rfl ?_
     refine AOps.split 30 rfl (fun g1 => ?_) (fun g1 => ?_)
     ·
      skip
      rw [bestS_no (by rw [hge]; simp at g1; simp [g1])] at hf
      refine AOps.off' rfl rfl rfl rfl ?_
      refine AOps.off' rfl rfl rfl rfl ?_
      refine AOps.off' rfl rfl rfl rfl ?_
      refine Y (Yields.pick_true rfl rfl) rfl ?_
      refine AOps.nil ?_
      refine AWP.cond rfl (fun _ => ?_) (fun h => absurd h (by decide))
      refine AWP.exit ?_
      refine AWP.region ?_
      refine Y (bn rfl rfl (BinR.addI (by omega) (by omega)) rfl) rfl ?_
      refine Y (mv rfl) rfl ?_
      refine AOps.nil ?_
      refine ⟨(B, some bp, q, most, pre ++ [AV.loc Bi 0 (ints w).length (ints w).length 1], R', i + 1), ?_, ?_, ?_⟩
      ·
       show L.length - (i + 1) < L.length - i
       omega
      ·
       show (pre ++ [AV.loc Bi 0 (ints w).length (ints w).length 1]).length = (i + 1) ∧ (i + 1) + R'.length = L.length ∧ bestS (.mk kd nm t ks) R' (q, most) = bestS (.mk kd nm t ks) L ([], 0) ∧ ∀ w ∈ R', w ∈ L
       exact ⟨by simp [hpre], by omega, hf, fun u hu => hw u (List.mem_cons_of_mem _ hu)⟩
      · exact Leads.keepR (KeepR.cons 2 rfl (KeepR.cons 2 rfl (KeepR.cons 2 rfl KeepR.nil))) ⟨rfl, rfl, rfl, rfl, rfl, rfl, trivial⟩
     ·
      skip
      refine AOps.on rfl rfl ?_
      refine Y (Yields.load_ptr_agg (j := 0) kd25 rfl rfl rfl rfl) rfl ?_
      refine AOps.on rfl rfl ?_
      refine AOps.callro (isize_AF (.mk zk zn zt zks) hzb (by omega)) rfl rfl rfl ?_
      refine AOps.on rfl rfl ?_
      refine Y (bn rfl rfl BinR.lss rfl) rfl ?_
      refine Y (Yields.pick_false rfl rfl) rfl ?_
      refine AOps.nil ?_
      refine AWP.condT rfl (fun g2 => ?_) (fun g2 => ?_)
      ·
       replace g2 := of_decide_eq_true g2
       rw [bestS_no (by rw [hge]; simp; omega)] at hf
       refine AWP.exit ?_
       refine AWP.region ?_
       refine Y (bn rfl rfl (BinR.addI (by omega) (by omega)) rfl) rfl ?_
       refine Y (mv rfl) rfl ?_
       refine AOps.nil ?_
       refine ⟨(B, some bp, q, most, pre ++ [AV.loc Bi 0 (ints w).length (ints w).length 1], R', i + 1), ?_, ?_, ?_⟩
       ·
        show L.length - (i + 1) < L.length - i
        omega
       ·
        show (pre ++ [AV.loc Bi 0 (ints w).length (ints w).length 1]).length = (i + 1) ∧ (i + 1) + R'.length = L.length ∧ bestS (.mk kd nm t ks) R' (q, most) = bestS (.mk kd nm t ks) L ([], 0) ∧ ∀ w ∈ R', w ∈ L
        exact ⟨by simp [hpre], by omega, hf, fun u hu => hw u (List.mem_cons_of_mem _ hu)⟩
       · exact Leads.keepR (KeepR.cons 2 rfl (KeepR.cons 2 rfl (KeepR.cons 2 rfl KeepR.nil))) ⟨rfl, rfl, rfl, rfl, rfl, rfl, trivial⟩
      ·
       replace g2 := of_decide_eq_false g2
       refine AWP.skip ?_
       refine AWP.seq ?_
       refine AWP.region ?_
       refine Y (Yields.load_ptr_agg (j := 4) kd25 rfl rfl rfl rfl) rfl ?_
       refine Y (mv rfl) rfl ?_
       refine AOps.callHb (.inl trivial) (ishared_AH (.mk kd nm t ks) hk hz (okE_valid h) w (by omega) hws) rfl rfl rfl ⟨Bor.refl rfl, bor_intsN (j := 1) rfl rfl, trivial⟩ (fun r hp' h => ownR.free h) ?_
       rintro _ _ ⟨Bs, rfl, rfl⟩
       have hpx : plainX (.mk zk zn zt zks) = true := by simpa using g1
       refine Y (Yields.len_loc sl35 rfl) rfl ?_
       refine Y (ass rfl) rfl ?_
       refine AOps.nil ?_
       refine AWP.seq ?_
       refine AWP.region ?_
       refine Y (mv rfl) rfl ?_
       refine Y (bn rfl rfl BinR.geq rfl) rfl ?_
       refine Y (mv rfl) rfl ?_
       refine AOps.split 41 rfl (fun g3 => ?_) (fun g3 => ?_)
       ·
        replace g3 := of_decide_eq_true g3
        have hwb := won_le (a := ((sharedT (.mk kd nm t ks) w).length : Int) - 1) (b := sizeT (.mk zk zn zt zks) - 1) (by omega) (by omega) (by omega) (by omega)
        refine AOps.on rfl rfl ?_
        refine Y (mv rfl) rfl ?_
        refine AOps.on rfl rfl ?_
        refine Y (bn rfl rfl (BinR.subI (by omega) (by omega)) rfl) rfl ?_
        refine AOps.on rfl rfl ?_
        refine Y (Yields.load_ptr_agg (j := 1) kd25 rfl rfl rfl rfl) rfl ?_
        refine AOps.on rfl rfl ?_
        refine AOps.callro (isize_AF (.mk zk zn zt zks) hzb (by omega)) rfl rfl rfl ?_
        refine AOps.on rfl rfl ?_
        refine Y (bn rfl rfl (BinR.subI (by omega) (by omega)) rfl) rfl ?_
        refine AOps.on rfl rfl ?_
        refine Y (bn rfl rfl (BinR.mulI (by omega) (by omega)) rfl) rfl ?_
        refine AOps.on rfl rfl ?_
        refine Y (mv rfl) rfl ?_
        refine AOps.on rfl rfl ?_
        refine Y (bn rfl rfl BinR.gtr rfl) rfl ?_
        refine Y (Yields.pick_true rfl rfl) rfl ?_
        refine AOps.nil ?_
        refine AWP.condT rfl (fun g4 => ?_) (fun g4 => ?_)
        ·
         replace g4 := of_decide_eq_true g4
         refine AWP.region ?_
         have hgd : goodW (.mk kd nm t ks) w = true ∧ (q, most).2 < wonT (.mk kd nm t ks) w := ⟨by rw [hge, hpx]; simp; omega, by rw [hwe]; exact g4⟩
         rw [bestS_yes hgd] at hf
         refine Y (mv rfl) rfl ?_
         refine Y (mv rfl) rfl ?_
         refine Y (bn rfl rfl (BinR.subI (by omega) (by omega)) rfl) rfl ?_
         refine Y (Yields.load_ptr_agg (j := 1) kd25 rfl rfl rfl rfl) rfl ?_
         refine AOps.callro (isize_AF (.mk zk zn zt zks) hzb (by omega)) rfl rfl rfl ?_
         refine Y (bn rfl rfl (BinR.subI (by omega) (by omega)) rfl) rfl ?_
         refine Y (bn rfl rfl (BinR.mulI (by omega) (by omega)) rfl) rfl ?_
         refine Y (ass rfl) rfl ?_
         refine Y (ass rfl) rfl ?_
         refine AOps.nil ?_
         refine AWP.region ?_
         refine Y (bn rfl rfl (BinR.addI (by omega) (by omega)) rfl) rfl ?_
         refine Y (mv rfl) rfl ?_
         refine AOps.nil ?_
         refine ⟨(Bi, some bp, w, (((sharedT (.mk kd nm t ks) w).length : Int) - 1) * (sizeT (.mk zk zn zt zks) - 1), pre ++ [AV.loc Bi 0 (ints w).length (ints w).length 1], R', i + 1), ?_, ?_, ?_⟩
         ·
          show L.length - (i + 1) < L.length - i
          omega
         ·
          show (pre ++ [AV.loc Bi 0 (ints w).length (ints w).length 1]).length = (i + 1) ∧ (i + 1) + R'.length = L.length ∧ bestS (.mk kd nm t ks) R' (w, ((((sharedT (.mk kd nm t ks) w).length : Int) - 1) * (sizeT (.mk zk zn zt zks) - 1))) = bestS (.mk kd nm t ks) L ([], 0) ∧ ∀ w ∈ R', w ∈ L
          exact ⟨by simp [hpre], by omega, by rw [← hwe]; exact hf, fun u hu => hw u (List.mem_cons_of_mem _ hu)⟩
         · exact Leads.keepR (KeepR.cons 2 rfl (KeepR.cons 3 rfl (KeepR.cons 3 rfl KeepR.nil))) ⟨rfl, rfl, rfl, rfl, rfl, rfl, trivial⟩
        ·
         replace g4 := of_decide_eq_false g4
         rw [bestS_no (fun e => by have := e.2; rw [hwe] at this; exact g4 this)] at hf
         refine AWP.skip ?_
         refine AWP.region ?_
         refine Y (bn rfl rfl (BinR.addI (by omega) (by omega)) rfl) rfl ?_
         refine Y (mv rfl) rfl ?_
         refine AOps.nil ?_
         refine ⟨(B, some bp, q, most, pre ++ [AV.loc Bi 0 (ints w).length (ints w).length 1], R', i + 1), ?_, ?_, ?_⟩
         ·
          show L.length - (i + 1) < L.length - i
          omega
         ·
          show (pre ++ [AV.loc Bi 0 (ints w).length (ints w).length 1]).length = (i + 1) ∧ (i + 1) + R'.length = L.length ∧ bestS (.mk kd nm t ks) R' (q, most) = bestS (.mk kd nm t ks) L ([], 0) ∧ ∀ w ∈ R', w ∈ L
          exact ⟨by simp [hpre], by omega, hf, fun u hu => hw u (List.mem_cons_of_mem _ hu)⟩
         · exact Leads.keepR (KeepR.cons 3 rfl (KeepR.cons 3 rfl (KeepR.cons 3 rfl KeepR.nil))) ⟨rfl, rfl, rfl, rfl, rfl, rfl, trivial⟩
       ·
        replace g3 := of_decide_eq_false g3
        rw [bestS_no (by rw [hge]; simp; omega)] at hf
        refine AOps.off' rfl rfl rfl rfl ?_
        refine AOps.off' rfl rfl rfl rfl ?_
        refine AOps.off' rfl rfl rfl rfl ?_
        refine AOps.off' rfl rfl rfl rfl ?_
        refine AOps.off' rfl rfl rfl rfl ?_
        refine AOps.off' rfl rfl rfl rfl ?_
        refine AOps.off' rfl rfl rfl rfl ?_
        refine AOps.off' rfl rfl rfl rfl ?_
        refine Y (Yields.pick_false rfl rfl) rfl ?_
        refine AOps.nil ?_
        refine AWP.cond rfl (fun h => absurd h (by decide)) (fun _ => ?_)
        refine AWP.skip ?_
        refine AWP.region ?_
        refine Y (bn rfl rfl (BinR.addI (by omega) (by omega)) rfl) rfl ?_
        refine Y (mv rfl) rfl ?_
        refine AOps.nil ?_
        refine ⟨(B, some bp, q, most, pre ++ [AV.loc Bi 0 (ints w).length (ints w).length 1], R', i + 1), ?_, ?_, ?_⟩
        ·
         show L.length - (i + 1) < L.length - i
         omega
        ·
         show (pre ++ [AV.loc Bi 0 (ints w).length (ints w).length 1]).length = (i + 1) ∧ (i + 1) + R'.length = L.length ∧ bestS (.mk kd nm t ks) R' (q, most) = bestS (.mk kd nm t ks) L ([], 0) ∧ ∀ w ∈ R', w ∈ L
         exact ⟨by simp [hpre], by omega, hf, fun u hu => hw u (List.mem_cons_of_mem _ hu)⟩
        · exact Leads.keepR (KeepR.cons 3 rfl (KeepR.cons 3 rfl (KeepR.cons 3 rfl KeepR.nil))) ⟨rfl, rfl, rfl, rfl, rfl, rfl, trivial⟩
    ·
     replace g := of_decide_eq_false g
     have hR0 : R = [] := by cases R with | nil => rfl | cons a b => (simp at hR; omega)
     rw [hR0, bestS] at hf
     have he : bestE (.mk kd nm t ks) = (q, most) := by rw [bestE, if_pos h, hL, hf]
     refine AWP.exit ?_
     refine AWP.seq ?_
     refine AWP.region ?_
     refine Y (mv rfl) rfl ?_
     refine Y (mv rfl) rfl ?_
     refine Y (bn rfl rfl BinR.gtr rfl) rfl ?_
     refine Y (ass rfl) rfl ?_
     refine Y (ass rfl) rfl ?_
     refine AOps.nil ?_
     refine AWP.ret ⟨.inl rfl, ?_⟩
     exact RetH.of (rs := [.tmp 2, .tmp 3]) (vs := [_, _]) rfl ⟨rfl, rfl, trivial⟩ (KeepR.cons 0 rfl KeepR.nil) (⟨B, by rw [he]; rfl, by rw [he]⟩)
theorem iSharedBest_AF (k : Tr) (hk : k.bnd 1000000) (hz : sizeT k ≤ 1000001) : Fn 18 [k.av] (.tup [.ro 1 (ints (bestE k).1) [] false, bool (decide (0 < (bestE k).2))]) :=
  AH.toF (by simp [plainL, plainV, Tr.plain_av]) (iSharedBest_AH k hk hz) (fun r hp' h => ownPB.fz h)
theorem sSharedBest_AH (k : Tr) (hk : k.bnd 1000000) (hz : sizeT k ≤ 1000001) : FnH 19 [] [k.av] (ownPB (bestE k).1 (decide (0 < (bestE k).2))) := by
  have hpl := pathsT_length k
  have hpa := pathsT_at k
  have hps := pathsT_short k
  have bF := sbelowR_AF k hk (by omega)
  obtain ⟨kd, nm, t, ks⟩ := k
  obtain ⟨L, hL⟩ : ∃ L, pathsT (.mk kd nm t ks) = L := ⟨_, rfl⟩
  rw [hL] at bF
  have hLl : L.length ≤ 1000001 := by rw [hL] at hpl; omega
  have hLr := rowsR_length L
  refine AH.intro Tryz.func19 nm19 rfl rfl rfl fun w0 ok0 own0 => ?_
  refine AWP.seq ?_
  refine AWP.region ?_
  refine AOps.box rfl rfl rfl rfl fun b1 => ?_
  refine Y (ass rfl) rfl ?_
  refine Y (ass rfl) rfl ?_
  refine AOps.nil ?_
  refine AWP.seq ?_
  refine AWP.seq ?_
  refine AWP.region ?_
  refine Y (Yields.load_ptr_agg (j := 0) kd25 rfl rfl rfl rfl) rfl ?_
  refine AOps.callro (sExprOk_AF (.mk kd nm t ks) hk (by omega)) rfl rfl rfl ?_
  refine Y (Yields.not rfl) rfl ?_
  refine AOps.nil ?_
  refine AWP.condT rfl (fun h => ?_) (fun h => ?_)
  ·
   skip
   refine AWP.seq ?_
   refine AWP.region ?_
   have h : okE (.mk kd nm t ks) = false := by simpa using h
   refine Y (ass rfl) rfl ?_
   refine Y (ass rfl) rfl ?_
   refine AOps.nil ?_
   refine AWP.leads (Leads.own0 2 1 rfl) ?_
   refine AWP.ret ⟨.inl rfl, ?_⟩
   exact RetH.of (rs := [.tmp 2, .tmp 3]) (vs := [_, _]) rfl ⟨rfl, rfl, trivial⟩ (KeepR.cons 0 rfl KeepR.nil) (⟨none, by rw [bestE_no h]; rfl, by rw [bestE_no h]; rfl⟩)
  ·
   skip
   have h : okE (.mk kd nm t ks) = true := by simpa using h
   refine AWP.skip ?_
   refine AWP.seq ?_
   refine AWP.region ?_
   refine Y (ass rfl) rfl ?_
   refine AOps.nil ?_
   refine AWP.seq ?_
   refine AWP.region ?_
   refine Y (ass rfl) rfl ?_
   refine AOps.nil ?_
   refine AWP.seq ?_
   refine AWP.region ?_
   refine Y (Yields.load_ptr_agg (j := 0) kd25 rfl rfl rfl rfl) rfl ?_
   refine AOps.callw (bF) rfl rfl ⟨Wk.refl _, Wk.nil, trivial⟩ rfl ?_
   refine Y (ass rfl) rfl ?_
   refine AOps.nil ?_
   refine AWP.seq ?_
   refine AWP.seq ?_
   refine AWP.region ?_
   refine Y (ass rfl) rfl ?_
   refine AOps.nil ?_
   refine AWP.leads (Leads.own0 5 1 rfl) ?_
   refine AWP.block ?_
   refine AWP.loopV (α := Option Nat × List Int × Int × Nat) (fun pp : Option Nat × List Int × Int × Nat => match pp with | (B, q, most, i) => ⟨[(1, .ptr (some b1) 0 0 4), (4, int most), (5, .loc B 0 q.length q.length 1), (6, .ro 1 (rowsR L) [] false), (7, int i)], [(B, ⟨1, ints q⟩), (some b1, ⟨4, [Tr.av (.mk kd nm t ks)]⟩)]⟩) (fun pp : Option Nat × List Int × Int × Nat => match pp with | (B, q, most, i) => i ≤ L.length ∧ bestS (.mk kd nm t ks) (L.drop i) (q, most) = bestS (.mk kd nm t ks) L ([], 0)) (fun pp : Option Nat × List Int × Int × Nat => match pp with | (B, q, most, i) => L.length - i) ((none, [], 0, 0)) ?_ ?_ ?_
   · exact Leads.keepR (KeepR.cons 0 rfl (KeepR.cons 0 rfl KeepR.nil)) ⟨rfl, rfl, rfl, rfl, rfl, trivial⟩
   ·
    show 0 ≤ L.length ∧ bestS (.mk kd nm t ks) (L.drop 0) (([]), 0) = bestS (.mk kd nm t ks) L ([], 0)
    exact ⟨Nat.zero_le _, rfl⟩
   ·
    rintro ⟨B, q, most, i⟩ hinv
    replace hinv : i ≤ L.length ∧ bestS (.mk kd nm t ks) (L.drop i) (q, most) = bestS (.mk kd nm t ks) L ([], 0) := hinv
    show AWP _ _ _ _ ⟨[(1, .ptr (some b1) 0 0 4), (4, int most), (5, .loc B 0 q.length q.length 1), (6, .ro 1 (rowsR L) [] false), (7, int i)], [(B, ⟨1, ints q⟩), (some b1, ⟨4, [Tr.av (.mk kd nm t ks)]⟩)]⟩
    refine AWP.seq ?_
    refine AWP.seq ?_
    refine AWP.region ?_
    obtain ⟨hi, hf⟩ := hinv
    refine Y (mv rfl) rfl ?_
    refine Y (mv rfl) rfl ?_
    refine Y (Yields.len_ro sl35 rfl) rfl ?_
    refine Y (bn rfl rfl BinR.lss rfl) rfl ?_
    refine AOps.nil ?_
    refine AWP.condT rfl (fun g => ?_) (fun g => ?_)
    ·
     replace g := of_decide_eq_true g
     replace g : (i : Int) < ((rowsR L).length : Int) := g
     obtain ⟨w, hw, hd⟩ := drop_at (l := L) (i := i) (by omega)
     have hwL := List.mem_of_getElem? hw
     have hws : (atT (.mk kd nm t ks) w).isSome = true := hpa w (hL ▸ hwL)
     have hwl := hps w (hL ▸ hwL)
     obtain ⟨⟨zk, zn, zt, zks⟩, hz1⟩ := Option.isSome_iff_exists.1 hws
     have hze : atV (.mk kd nm t ks) w = (.mk zk zn zt zks) := by rw [atV, hz1]; rfl
     have hzb := atV_bnd w (.mk kd nm t ks) hk _ hz1
     have hzs := atT_size w (.mk kd nm t ks) _ hz1
     have hzp := sizeT_pos (.mk zk zn zt zks)
     have hsl := sharedT_length (.mk kd nm t ks) w
     have hlw := ints_length w
     have hge : goodW (.mk kd nm t ks) w = (plainX (.mk zk zn zt zks) && (decide (2 ≤ sizeT (.mk zk zn zt zks)) && decide (2 ≤ (sharedT (.mk kd nm t ks) w).length))) := by rw [goodW, hze]
     have hwe : wonT (.mk kd nm t ks) w = (((sharedT (.mk kd nm t ks) w).length : Int) - 1) * (sizeT (.mk zk zn zt zks) - 1) := by rw [wonT, hze]
     have pF := spart_AF (.mk kd nm t ks) hk w (by omega)
     rw [hze, hws] at pF
     have qF := sSharedPaths_AF (.mk kd nm t ks) hk hz w (by omega)
     rw [sharedE, if_pos (by rw [atB, h, hws]; rfl)] at qF
     have hrl := rowsR_length (sharedT (.mk kd nm t ks) w)
     rw [hd] at hf
     refine AWP.skip ?_
     refine AWP.seq ?_
     refine AWP.block ?_
     refine AWP.seq ?_
     refine AWP.prune (tm' := [(1, _), (4, _), (5, _), (6, _), (7, _), (20, _)]) ⟨rfl, rfl, rfl, rfl, rfl, rfl, trivial⟩ ?_
     refine AWP.drawnM [] [.pure 0, .pure 1, .pure 2, .pure 3, .pure 4, .pure 5, .pure 6, .pure 7, .pure 8, .pure 9, .spine 10 [9] [0, 1, 2, 3, 4, 5, 6, 7, 9], .pure 11] mixed rfl rfl rfl rfl rfl ?_
     refine DM.pure (GX (tm' := [(1, _)]) rfl ⟨rfl, trivial⟩ rfl (DStep.yields (Yields.load_ptr_agg (j := 1) kd25 rfl rfl rfl rfl)) rfl) ?_
     refine DM.pure (GX (tm' := [(6, _)]) rfl ⟨rfl, trivial⟩ rfl (DStep.yields (mv rfl)) rfl) ?_
     refine DM.pure (GX (tm' := [(7, _)]) rfl ⟨rfl, trivial⟩ rfl (DStep.yields (mv rfl)) rfl) ?_
     refine DM.pure (GX (tm' := [(25, _), (26, _)]) rfl ⟨rfl, rfl, trivial⟩ rfl (DStep.yields (Yields.idx_roN sl35 rfl rfl rfl rfl (by omega))) rfl) ?_
     refine DM.pure (GX (tm' := [(27, _)]) rfl ⟨rfl, trivial⟩ rfl (DStep.yields (Yields.load_rop_one kd32 rfl (rowsR_at hw) rfl)) rfl) ?_
     refine DM.pure (GX (tm' := [(24, _), (28, _)]) rfl ⟨rfl, rfl, trivial⟩ rfl (DStep.callro (pF) rfl rfl) rfl) ?_
     refine DM.pure (GX (tm' := [(29, _)]) rfl ⟨rfl, trivial⟩ rfl (DStep.yields (mv rfl)) rfl) ?_
     refine DM.pure (GX (tm' := [(23, _)]) rfl ⟨rfl, trivial⟩ rfl (DStep.yields (Yields.extract rfl rfl)) rfl) ?_
     refine DM.pure (GX (tm' := [(23, _)]) rfl ⟨rfl, trivial⟩ rfl (DStep.yields (Yields.extract rfl rfl)) rfl) ?_
     refine DM.pure (GXs (tm' := []) rfl trivial rfl rfl (DStepU.alloc z25 rfl rfl) rfl) ?_
     refine DM.sp rfl rfl ?_
     refine DOpen.optr rfl fun b8 => ?_
     refine DOpen.nil fun _ _ _ => ?_
     refine AOps.subT (tm' := [(8, _), (30, _)]) ⟨rfl, rfl, trivial⟩ ?_
     refine AOps.store (j := 0) kd25 rfl rfl rfl rfl rfl rfl ?_
     refine AOps.nil ?_
     refine SpK.mk0 ?_ ?_
     ·
      skip
      refine Stab.skip rfl ?_
      refine Stab.keep (GX (tm' := [(23, _)]) rfl ⟨rfl, trivial⟩ rfl (DStep.yields (Yields.extract rfl rfl)) rfl) ?_
      refine Stab.skip rfl ?_
      refine Stab.skip rfl ?_
      refine Stab.skip rfl ?_
      refine Stab.skip rfl ?_
      refine Stab.skip rfl ?_
      refine Stab.skip rfl ?_
      refine Stab.skip rfl ?_
      refine Stab.skip rfl ?_
      exact trivial
     refine DM.pure (GX (tm' := [(31, _)]) rfl ⟨rfl, trivial⟩ rfl (DStep.yields (ass rfl)) rfl) ?_
     refine DM.nil ?_
     refine AWP.seq ?_
     refine AWP.prune (tm' := [(1, _), (4, _), (5, _), (6, _), (7, _), (20, _), (8, _)]) ⟨rfl, rfl, rfl, rfl, rfl, rfl, rfl, trivial⟩ ?_
     refine AWP.drawn mixed rfl rfl ?_
     refine D (tm' := [(1, _)]) ⟨rfl, trivial⟩ (DStep.yields (Yields.load_ptr_agg (j := 2) kd25 rfl rfl rfl rfl)) rfl ?_
     refine D (tm' := [(6, _)]) ⟨rfl, trivial⟩ (DStep.yields (mv rfl)) rfl ?_
     refine D (tm' := [(7, _)]) ⟨rfl, trivial⟩ (DStep.yields (mv rfl)) rfl ?_
     refine D (tm' := [(33, _), (34, _)]) ⟨rfl, rfl, trivial⟩ (DStep.yields (Yields.idx_roN sl35 rfl rfl rfl rfl (by omega))) rfl ?_
     refine D (tm' := [(35, _)]) ⟨rfl, trivial⟩ (DStep.yields (Yields.load_rop_one kd32 rfl (rowsR_at hw) rfl)) rfl ?_
     refine D (tm' := [(32, _), (36, _)]) ⟨rfl, rfl, trivial⟩ (DStep.callro (qF) rfl rfl) rfl ?_
     refine D (tm' := [(37, _)]) ⟨rfl, trivial⟩ (DStep.yields (Yields.len_ro sl35 rfl)) rfl ?_
     refine D (tm' := [(38, _)]) ⟨rfl, trivial⟩ (DStep.yields (ass rfl)) rfl ?_
     refine DOps.nil ?_
     refine AWP.seq ?_
     refine AWP.seq ?_
     refine AWP.region ?_
     refine Y (Yields.load_ptr_agg (j := 0) kd25 rfl rfl rfl rfl) rfl ?_
     refine AOps.callro (splain_AF (.mk zk zn zt zks) hzb) rfl rfl rfl ?_
     refine Y (Yields.not rfl) rfl ?_
     refine Y (mv rfl) rfl ?_
     refine AOps.split 42 rfl (fun g1 => ?_) (fun g1 => ?_)
     ·
      skip
      rw [bestS_no (by rw [hge]; simp at g1; simp [g1])] at hf
      refine AOps.off' rfl rfl rfl rfl ?_
      refine AOps.off' rfl rfl rfl rfl ?_
      refine AOps.off' rfl rfl rfl rfl ?_
      refine Y (Yields.pick_true rfl rfl) rfl ?_
      refine Y (mv rfl) rfl ?_
      refine AOps.off' rfl rfl rfl rfl ?_
      refine AOps.off' rfl rfl rfl rfl ?_
      refine Y (Yields.pick_true rfl rfl) rfl ?_
      refine AOps.nil ?_
      refine AWP.cond rfl (fun _ => ?_) (fun h => absurd h (by decide))
      refine AWP.exit ?_
      refine AWP.region ?_
      refine Y (mv rfl) rfl ?_
      refine Y (bn rfl rfl (BinR.addI (by omega) (by omega)) rfl) rfl ?_
      refine Y (ass rfl) rfl ?_
      refine AOps.nil ?_
      refine ⟨(B, q, most, i + 1), ?_, ?_, ?_⟩
      ·
       show L.length - (i + 1) < L.length - i
       omega
      ·
       show (i + 1) ≤ L.length ∧ bestS (.mk kd nm t ks) (L.drop (i + 1)) (q, most) = bestS (.mk kd nm t ks) L ([], 0)
       exact ⟨by omega, hf⟩
      · exact Leads.keepR (KeepR.cons 1 rfl (KeepR.cons 1 rfl KeepR.nil)) ⟨rfl, rfl, rfl, rfl, rfl, trivial⟩
     ·
      skip
      refine AOps.on rfl rfl ?_
      refine Y (Yields.load_ptr_agg (j := 0) kd25 rfl rfl rfl rfl) rfl ?_
      refine AOps.on rfl rfl ?_
      refine AOps.callro (ssize_AF (.mk zk zn zt zks) hzb (by omega)) rfl rfl rfl ?_
      refine AOps.on rfl rfl ?_
      refine Y (bn rfl rfl BinR.lss rfl) rfl ?_
      refine Y (Yields.pick_false rfl rfl) rfl ?_
      refine Y (mv rfl) rfl ?_
      refine AOps.split 47 rfl (fun g2 => ?_) (fun g2 => ?_)
      ·
       replace g2 := of_decide_eq_true g2
       rw [bestS_no (by rw [hge]; simp; omega)] at hf
       refine AOps.off' rfl rfl rfl rfl ?_
       refine AOps.off' rfl rfl rfl rfl ?_
       refine Y (Yields.pick_true rfl rfl) rfl ?_
       refine AOps.nil ?_
       refine AWP.cond rfl (fun _ => ?_) (fun h => absurd h (by decide))
       refine AWP.exit ?_
       refine AWP.region ?_
       refine Y (mv rfl) rfl ?_
       refine Y (bn rfl rfl (BinR.addI (by omega) (by omega)) rfl) rfl ?_
       refine Y (ass rfl) rfl ?_
       refine AOps.nil ?_
       refine ⟨(B, q, most, i + 1), ?_, ?_, ?_⟩
       ·
        show L.length - (i + 1) < L.length - i
        omega
       ·
        show (i + 1) ≤ L.length ∧ bestS (.mk kd nm t ks) (L.drop (i + 1)) (q, most) = bestS (.mk kd nm t ks) L ([], 0)
        exact ⟨by omega, hf⟩
       · exact Leads.keepR (KeepR.cons 1 rfl (KeepR.cons 1 rfl KeepR.nil)) ⟨rfl, rfl, rfl, rfl, rfl, trivial⟩
      ·
       replace g2 := of_decide_eq_false g2
       refine AOps.on rfl rfl ?_
       refine Y (mv rfl) rfl ?_
       refine AOps.on rfl rfl ?_
       refine Y (bn rfl rfl BinR.lss rfl) rfl ?_
       refine Y (Yields.pick_false rfl rfl) rfl ?_
       refine AOps.nil ?_
       refine AWP.condT rfl (fun g3 => ?_) (fun g3 => ?_)
       ·
        replace g3 := of_decide_eq_true g3
        rw [bestS_no (by rw [hge]; simp; omega)] at hf
        refine AWP.exit ?_
        refine AWP.region ?_
        refine Y (mv rfl) rfl ?_
        refine Y (bn rfl rfl (BinR.addI (by omega) (by omega)) rfl) rfl ?_
        refine Y (ass rfl) rfl ?_
        refine AOps.nil ?_
        refine ⟨(B, q, most, i + 1), ?_, ?_, ?_⟩
        ·
         show L.length - (i + 1) < L.length - i
         omega
        ·
         show (i + 1) ≤ L.length ∧ bestS (.mk kd nm t ks) (L.drop (i + 1)) (q, most) = bestS (.mk kd nm t ks) L ([], 0)
         exact ⟨by omega, hf⟩
        · exact Leads.keepR (KeepR.cons 1 rfl (KeepR.cons 1 rfl KeepR.nil)) ⟨rfl, rfl, rfl, rfl, rfl, trivial⟩
       ·
        replace g3 := of_decide_eq_false g3
        have hpx : plainX (.mk zk zn zt zks) = true := by simpa using g1
        have hwb := won_le (a := ((rowsR (sharedT (.mk kd nm t ks) w)).length : Int) - 1) (b := sizeT (.mk zk zn zt zks) - 1) (by omega) (by omega) (by omega) (by omega)
        refine AWP.skip ?_
        refine AWP.seq ?_
        refine AWP.region ?_
        refine Y (mv rfl) rfl ?_
        refine Y (bn rfl rfl (BinR.subI (by omega) (by omega)) rfl) rfl ?_
        refine Y (Yields.load_ptr_agg (j := 0) kd25 rfl rfl rfl rfl) rfl ?_
        refine AOps.callro (ssize_AF (.mk zk zn zt zks) hzb (by omega)) rfl rfl rfl ?_
        refine Y (bn rfl rfl (BinR.subI (by omega) (by omega)) rfl) rfl ?_
        refine Y (bn rfl rfl (BinR.mulI (by omega) (by omega)) rfl) rfl ?_
        rw [← hrl] at hwe
        refine Y (ass rfl) rfl ?_
        refine AOps.nil ?_
        refine AWP.seq ?_
        refine AWP.region ?_
        refine Y (mv rfl) rfl ?_
        refine Y (mv rfl) rfl ?_
        refine Y (bn rfl rfl BinR.gtr rfl) rfl ?_
        refine AOps.nil ?_
        refine AWP.condT rfl (fun g4 => ?_) (fun g4 => ?_)
        ·
         replace g4 := of_decide_eq_true g4
         refine AWP.seq ?_
         refine AWP.region ?_
         have hgd : goodW (.mk kd nm t ks) w = true ∧ (q, most).2 < wonT (.mk kd nm t ks) w := ⟨by rw [hge, hpx]; simp; omega, by rw [hwe]; exact g4⟩
         rw [bestS_yes hgd] at hf
         refine Y (mv rfl) rfl ?_
         refine Y (ass rfl) rfl ?_
         refine AOps.nil ?_
         refine AWP.region ?_
         refine AOps.buildSlice sl32 z3 rfl rfl rfl rfl rfl fun bq => ?_
         refine Y (mv rfl) rfl ?_
         refine Y (mv rfl) rfl ?_
         refine Y (Yields.idx_roN sl35 rfl rfl rfl rfl (by omega)) rfl ?_
         refine Y (Yields.load_rop_one kd32 rfl (rowsR_at hw) rfl) rfl ?_
         refine AOps.appendE (j := 0) sl32 z3 rfl rfl rfl rfl rfl rfl rfl (src_ro rfl) (show 0 + (ints w).length = w.length by omega) (List.nil_append _) (by omega) (by omega) fun Bn => ?_
         refine Y (ass rfl) rfl ?_
         refine AOps.nil ?_
         refine AWP.region ?_
         refine Y (mv rfl) rfl ?_
         refine Y (bn rfl rfl (BinR.addI (by omega) (by omega)) rfl) rfl ?_
         refine Y (ass rfl) rfl ?_
         refine AOps.nil ?_
         refine ⟨(Bn, w, (((rowsR (sharedT (.mk kd nm t ks) w)).length : Int) - 1) * (sizeT (.mk zk zn zt zks) - 1), i + 1), ?_, ?_, ?_⟩
         ·
          show L.length - (i + 1) < L.length - i
          omega
         ·
          show (i + 1) ≤ L.length ∧ bestS (.mk kd nm t ks) (L.drop (i + 1)) (w, ((((rowsR (sharedT (.mk kd nm t ks) w)).length : Int) - 1) * (sizeT (.mk zk zn zt zks) - 1))) = bestS (.mk kd nm t ks) L ([], 0)
          exact ⟨by omega, by rw [← hwe]; exact hf⟩
         · exact Leads.keepR (KeepR.cons 0 rfl (KeepR.cons 2 rfl KeepR.nil)) ⟨rfl, rfl, rfl, rfl, rfl, trivial⟩
        ·
         replace g4 := of_decide_eq_false g4
         rw [bestS_no (fun e => by have := e.2; rw [hwe] at this; exact g4 this)] at hf
         refine AWP.skip ?_
         refine AWP.region ?_
         refine Y (mv rfl) rfl ?_
         refine Y (bn rfl rfl (BinR.addI (by omega) (by omega)) rfl) rfl ?_
         refine Y (ass rfl) rfl ?_
         refine AOps.nil ?_
         refine ⟨(B, q, most, i + 1), ?_, ?_, ?_⟩
         ·
          show L.length - (i + 1) < L.length - i
          omega
         ·
          show (i + 1) ≤ L.length ∧ bestS (.mk kd nm t ks) (L.drop (i + 1)) (q, most) = bestS (.mk kd nm t ks) L ([], 0)
          exact ⟨by omega, hf⟩
         · exact Leads.keepR (KeepR.cons 1 rfl (KeepR.cons 1 rfl KeepR.nil)) ⟨rfl, rfl, rfl, rfl, rfl, trivial⟩
    ·
     replace g := of_decide_eq_false g
     replace g : ¬ (i : Int) < ((rowsR L).length : Int) := g
     rw [List.drop_eq_nil_of_le (by omega), bestS] at hf
     have he : bestE (.mk kd nm t ks) = (q, most) := by rw [bestE, if_pos h, hL, hf]
     refine AWP.exit ?_
     refine AWP.seq ?_
     refine AWP.region ?_
     refine Y (mv rfl) rfl ?_
     refine Y (mv rfl) rfl ?_
     refine Y (bn rfl rfl BinR.gtr rfl) rfl ?_
     refine Y (ass rfl) rfl ?_
     refine Y (ass rfl) rfl ?_
     refine AOps.nil ?_
     refine AWP.ret ⟨.inl rfl, ?_⟩
     exact RetH.of (rs := [.tmp 2, .tmp 3]) (vs := [_, _]) rfl ⟨rfl, rfl, trivial⟩ (KeepR.cons 0 rfl KeepR.nil) (⟨B, by rw [he]; rfl, by rw [he]⟩)
theorem sSharedBest_AF (k : Tr) (hk : k.bnd 1000000) (hz : sizeT k ≤ 1000001) : Fn 19 [k.av] (.tup [.ro 1 (ints (bestE k).1) [] false, bool (decide (0 < (bestE k).2))]) :=
  AH.toF (by simp [plainL, plainV, Tr.plain_av]) (sSharedBest_AH k hk hz) (fun r hp' h => ownPB.fz h)
end Go.Proofs.YteieleejhbljfaaGreat
