/- Shared expressions. -/
import Derived.Test.YteieleejhbljfaaGreatPlw
namespace Go.Proofs.YteieleejhbljfaaGreat
open Go Go.Ax Go.Proofs
set_option linter.unusedVariables false
set_option linter.unusedSimpArgs false
set_option maxRecDepth 20000
theorem trElim' (k : Tr) {G : Prop} (h : ∀ a b c ks, k = .mk a b c ks → G) : G := by
  obtain ⟨a, b, c, ks⟩ := k
  exact h a b c ks rfl
def isV' (v : AV) : AV → Hp → Prop := fun r hp' => r = v ∧ hp' = []
theorem isV'.fz {v r : AV} {hp' : Hp} (hv : plainV v = true) (h : isV' v r hp') : Fz hp' r v := by
  obtain ⟨rfl, rfl⟩ := h
  exact (Bor.refl hv).fz
def keepP (v : AV) (B : Option Nat) (p : List Int) : AV → Hp → Prop := fun r hp' => r = v ∧ hp' = [(B, ⟨1, ints p⟩)]
theorem iatR_AH (k : Tr) (hk : k.bnd 1000000) (B : Option Nat) (p : List Int) (hp : p.length ≤ 1000000) : FnH 35 [(B, ⟨1, ints p⟩)] [k.av, .loc B 0 p.length p.length 1] (keepP (.tup [(atV k p).av, bool (atT k p).isSome]) B p) := by
  obtain ⟨kd, nm, t, ks⟩ := k
  have hlp := ints_length p
  refine AH.intro Tryz.func35 nm35 rfl rfl rfl fun w0 ok0 own0 => ?_
  refine AWP.seq ?_
  refine AWP.region ?_
  refine AOps.box rfl rfl rfl rfl fun b1 => ?_
  refine AOps.alloc rfl z25 rfl rfl fun b2 => ?_
  refine Y (ass rfl) rfl ?_
  refine AOps.nil ?_
  refine AWP.seq ?_
  refine AWP.seq ?_
  refine AWP.region ?_
  refine Y (mv rfl) rfl ?_
  refine Y (Yields.len_loc sl32 rfl) rfl ?_
  refine Y (mv rfl) rfl ?_
  refine AOps.nil ?_
  refine AWP.block ?_
  refine AWP.loopV (α := Tr × Nat) (fun pp : Tr × Nat => match pp with | (x, i) => ⟨[(2, .ptr (some b1) 0 0 4), (4, .ptr (some b2) 0 0 4), (8, .loc B 0 p.length p.length 1), (9, int p.length), (10, int i)], [(some b1, ⟨4, [x.av]⟩), (some b2, ⟨4, [zero4]⟩), (B, ⟨1, ints p⟩)]⟩) (fun pp : Tr × Nat => match pp with | (x, i) => x.bnd 1000000 ∧ i ≤ p.length ∧ atT x (p.drop i) = atT (.mk kd nm t ks) p) (fun pp : Tr × Nat => match pp with | (x, i) => p.length - i) ((Tr.mk kd nm t ks, 0)) ?_ ?_ ?_
  · exact Leads.keepR (KeepR.cons 1 rfl (KeepR.cons 0 rfl (KeepR.cons 0 rfl KeepR.nil))) ⟨rfl, rfl, rfl, rfl, rfl, trivial⟩
  ·
   show (Tr.mk kd nm t ks).bnd 1000000 ∧ 0 ≤ p.length ∧ atT (Tr.mk kd nm t ks) (p.drop 0) = atT (.mk kd nm t ks) p
   exact ⟨hk, Nat.zero_le _, rfl⟩
  ·
   rintro ⟨x, i⟩ hinv
   replace hinv : x.bnd 1000000 ∧ i ≤ p.length ∧ atT x (p.drop i) = atT (.mk kd nm t ks) p := hinv
   show AWP _ _ _ _ ⟨[(2, .ptr (some b1) 0 0 4), (4, .ptr (some b2) 0 0 4), (8, .loc B 0 p.length p.length 1), (9, int p.length), (10, int i)], [(some b1, ⟨4, [x.av]⟩), (some b2, ⟨4, [zero4]⟩), (B, ⟨1, ints p⟩)]⟩
   refine AWP.seq ?_
   refine AWP.region ?_
   obtain ⟨xd, xn, xt, xks⟩ := x
   obtain ⟨hb, hi, hp1⟩ := hinv
   simp only [Tr.bnd] at hb
   have hlx := Tr.avs_length xks
   refine Y (bn rfl rfl BinR.lss rfl) rfl ?_
   refine AOps.nil ?_
   refine AWP.seq ?_
   refine AWP.condT rfl (fun g => ?_) (fun g => ?_)
   ·
    replace g := of_decide_eq_true g
    obtain ⟨n, hn, hd⟩ := drop_at (l := p) (i := i) (by omega)
    rw [hd] at hp1
    refine AWP.skip ?_
    refine AWP.seq ?_
    refine AWP.someRow 2 rfl (by intro e; have e := congrArg List.length e; simp only [hlp, List.length_nil] at e; omega) fun bb hsr => ?_
    subst hsr
    refine AWP.block ?_
    refine AWP.seq ?_
    refine AWP.region ?_
    refine Y (Yields.idx_locN sl32 rfl rfl rfl (by omega)) rfl ?_
    refine Y (Yields.load_ptr_one (j := 2) kd3 rfl rfl (show (ints p)[0 + i]? = some _ by rw [Nat.zero_add]; exact ints_at hn) rfl rfl) rfl ?_
    refine Y (ass rfl) rfl ?_
    refine AOps.nil ?_
    refine AWP.seq ?_
    refine AWP.seq ?_
    refine AWP.region ?_
    refine Y (mv rfl) rfl ?_
    refine Y (bn rfl rfl BinR.lss rfl) rfl ?_
    refine Y (mv rfl) rfl ?_
    refine AOps.split 16 rfl (fun g1 => ?_) (fun g1 => ?_)
    ·
     replace g1 := of_decide_eq_true g1
     rw [atT_bad (by omega)] at hp1
     refine AOps.off' rfl rfl rfl rfl ?_
     refine AOps.off' rfl rfl rfl rfl ?_
     refine AOps.off' rfl rfl rfl rfl ?_
     refine AOps.off' rfl rfl rfl rfl ?_
     refine AOps.off' rfl rfl rfl rfl ?_
     refine Y (Yields.pick_true rfl rfl) rfl ?_
     refine AOps.nil ?_
     refine AWP.cond rfl (fun _ => ?_) (fun h => absurd h (by decide))
     refine AWP.seq ?_
     refine AWP.region ?_
     refine Y (Yields.build pl25 z25 rfl rfl) rfl ?_
     refine AOps.store (j := 1) kd25 rfl rfl rfl rfl rfl rfl ?_
     refine Y (ass rfl) rfl ?_
     refine AOps.nil ?_
     refine AWP.leads (Leads.rowWk 1 0 rfl rfl (Wk.agg (ps := [_, _, _, .ro 4 [] [] false]) ⟨Wk.refl _, Wk.refl _, Wk.refl _, Wk.nil, trivial⟩)) ?_
     refine AWP.ret ⟨.inl rfl, ?_⟩
     exact RetH.of (rs := [.cell 4 25, .tmp 5]) (vs := [_, _]) rfl ⟨resOne.cell (j := 1) rfl rfl kd25 rfl rfl rfl, rfl, trivial⟩ (KeepR.cons 2 rfl KeepR.nil) (⟨by rw [atV, ← hp1]; rfl, rfl⟩)
    ·
     replace g1 := of_decide_eq_false g1
     refine AOps.on rfl rfl ?_
     refine Y (mv rfl) rfl ?_
     refine AOps.on rfl rfl ?_
     refine Y (Yields.fieldAddr_ptr fo25_3 rfl) rfl ?_
     refine AOps.on rfl rfl ?_
     refine Y (Yields.load_ptr_field (j := 0) kd23 rfl rfl rfl rfl rfl rfl rfl) rfl ?_
     refine AOps.on rfl rfl ?_
     refine Y (Yields.len_ro sl23 rfl) rfl ?_
     refine AOps.on rfl rfl ?_
     refine Y (bn rfl rfl BinR.geq rfl) rfl ?_
     refine Y (Yields.pick_false rfl rfl) rfl ?_
     refine AOps.nil ?_
     refine AWP.condT rfl (fun g2 => ?_) (fun g2 => ?_)
     ·
      replace g2 := of_decide_eq_true g2
      refine AWP.seq ?_
      refine AWP.region ?_
      rw [atT_bad (by omega)] at hp1
      refine Y (Yields.build pl25 z25 rfl rfl) rfl ?_
      refine AOps.store (j := 1) kd25 rfl rfl rfl rfl rfl rfl ?_
      refine Y (ass rfl) rfl ?_
      refine AOps.nil ?_
      refine AWP.leads (Leads.rowWk 1 0 rfl rfl (Wk.agg (ps := [_, _, _, .ro 4 [] [] false]) ⟨Wk.refl _, Wk.refl _, Wk.refl _, Wk.nil, trivial⟩)) ?_
      refine AWP.ret ⟨.inl rfl, ?_⟩
      exact RetH.of (rs := [.cell 4 25, .tmp 5]) (vs := [_, _]) rfl ⟨resOne.cell (j := 1) rfl rfl kd25 rfl rfl rfl, rfl, trivial⟩ (KeepR.cons 2 rfl KeepR.nil) (⟨by rw [atV, ← hp1]; rfl, rfl⟩)
     ·
      replace g2 := of_decide_eq_false g2
      obtain ⟨y, hy, _⟩ := drop_at (l := xks) (i := n.toNat) (by omega)
      rw [atT_step (by omega) hy] at hp1
      refine AWP.skip ?_
      refine AWP.region ?_
      refine Y (Yields.fieldAddr_ptr fo25_3 rfl) rfl ?_
      refine Y (Yields.load_ptr_field (j := 0) kd23 rfl rfl rfl rfl rfl rfl rfl) rfl ?_
      refine Y (mv rfl) rfl ?_
      refine Y (Yields.idx_roN sl23 rfl rfl rfl (j := n.toNat) (by omega) (by omega)) rfl ?_
      refine Y (Yields.load_rop_aggV kd25 rfl (Tr.avs_at hy) (Tr.av_agg y)) rfl ?_
      refine AOps.store (j := 0) kd25 rfl rfl rfl rfl (Tr.av_cell y) (Tr.av_width y) ?_
      refine AOps.nil ?_
      refine AWP.region ?_
      refine Y (bn rfl rfl (BinR.addI (by omega) (by omega)) rfl) rfl ?_
      refine Y (mv rfl) rfl ?_
      refine AOps.nil ?_
      refine ⟨(y, i + 1), ?_, ?_, ?_⟩
      ·
       show p.length - (i + 1) < p.length - i
       omega
      ·
       show y.bnd 1000000 ∧ (i + 1) ≤ p.length ∧ atT y (p.drop (i + 1)) = atT (.mk kd nm t ks) p
       exact ⟨Tr.bnds_get hb.2.2 hy, by omega, hp1⟩
      · exact Leads.keepR (KeepR.cons 0 rfl (KeepR.cons 0 rfl (KeepR.cons 0 rfl KeepR.nil))) ⟨rfl, rfl, rfl, rfl, rfl, trivial⟩
   ·
    replace g := of_decide_eq_false g
    rw [List.drop_eq_nil_of_le (by omega), atT] at hp1
    refine AWP.exit ?_
    refine AWP.seq ?_
    refine AWP.region ?_
    refine Y (Yields.load_ptr_agg (j := 0) kd25 rfl rfl rfl rfl) rfl ?_
    refine AOps.store (j := 1) kd25 rfl rfl rfl rfl rfl rfl ?_
    refine Y (ass rfl) rfl ?_
    refine AOps.nil ?_
    refine AWP.ret ⟨.inl rfl, ?_⟩
    exact RetH.of (rs := [.cell 4 25, .tmp 5]) (vs := [_, _]) rfl ⟨resOne.cell (j := 1) rfl rfl kd25 rfl rfl rfl, rfl, trivial⟩ (KeepR.cons 2 rfl KeepR.nil) (⟨by rw [atV, ← hp1]; rfl, rfl⟩)
def idxF (l : List ByteArray) : List ByteArray → Nat → Int
  | [], _ => -1
  | x :: u, i => if memB l x = true then i else idxF l u (i + 1)
theorem idxF_ge (l : List ByteArray) : ∀ (u : List ByteArray) (i : Nat), (0 ≤ idxF l u i ↔ u.any (memB l) = true)
  | [], i => by simp [idxF]
  | x :: u, i => by
    rw [idxF, List.any_cons]
    by_cases h : memB l x = true
    · rw [if_pos h, h]; simp
    · rw [if_neg h]; have := idxF_ge l u (i + 1); simp [h] at this ⊢; exact this
theorem dec_any (l u : List ByteArray) : decide (0 ≤ idxF l u 0) = u.any (memB l) := by
  rw [Bool.eq_iff_iff, ← idxF_ge l u 0]; simp
abbrev capS (l : List ByteArray) : AV := .rop 1 [.ro 1 (strs l) [] false] 0 0
theorem inner_AF (l : List ByteArray) (s : ByteArray) (hl : l.length ≤ 4000000) : Fn 73 [str s, capS l] (bool (memB l s)) := by
  refine AF.intro Tryz.func73 nm73 rfl rfl rfl rfl fun w0 ok0 => ?_
  refine AWP.seq ?_
  refine AWP.region ?_
  refine Y (ass rfl) rfl ?_
  refine AOps.nil ?_
  refine AWP.seq ?_
  refine AWP.region ?_
  refine Y (Yields.load_rop_one kd27 rfl rfl rfl) rfl ?_
  refine Y (mv rfl) rfl ?_
  refine AOps.callro (scontains_AF l s (by omega)) rfl rfl rfl ?_
  refine Y (ass rfl) rfl ?_
  refine AOps.nil ?_
  refine AWP.ret ⟨.inl rfl, ?_⟩
  exact RetIs.oneV rfl rfl (by (rfl) <;> rfl)
theorem indexF_AF (l u : List ByteArray) (hl : l.length ≤ 4000000) (hu : u.length ≤ 4000000) : Fn 110 [.ro 1 (strs u) [] false, .fn 73 [capS l]] (int (idxF l u 0)) := by
  have hlu := strs_length u
  refine AF.intro Tryz.func110 nm110 rfl rfl rfl rfl fun w0 ok0 => ?_
  refine AWP.seq ?_
  refine AWP.region ?_
  refine Y (ass rfl) rfl ?_
  refine AOps.nil ?_
  refine AWP.seq ?_
  refine AWP.seq ?_
  refine AWP.region ?_
  refine Y (mv rfl) rfl ?_
  refine Y (Yields.len_ro sl27 rfl) rfl ?_
  refine Y (mv rfl) rfl ?_
  refine AOps.nil ?_
  refine AWP.block ?_
  refine AWP.loopV (α := Nat) (fun i : Nat => ⟨[(0, .ro 1 (strs u) [] false), (1, .fn 73 [capS l]), (7, int (strs u).length), (8, int i)], []⟩) (fun i : Nat => i ≤ u.length ∧ idxF l (u.drop i) i = idxF l u 0) (fun i : Nat => u.length - i) (0) ?_ ?_ ?_
  · exact Leads.rows 0 ⟨rfl, rfl, rfl, rfl, trivial⟩
  ·
   show 0 ≤ u.length ∧ idxF l (u.drop 0) 0 = idxF l u 0
   exact ⟨Nat.zero_le _, rfl⟩
  ·
   rintro i hinv
   refine AWP.seq ?_
   refine AWP.region ?_
   obtain ⟨hi, hp⟩ := hinv
   refine Y (bn rfl rfl BinR.lss rfl) rfl ?_
   refine AOps.nil ?_
   refine AWP.seq ?_
   refine AWP.condT rfl (fun g => ?_) (fun g => ?_)
   ·
    replace g := of_decide_eq_true g
    obtain ⟨x, hx, hd⟩ := drop_at (l := u) (i := i) (by omega)
    rw [hd, idxF] at hp
    refine AWP.skip ?_
    refine AWP.seq ?_
    refine AWP.block ?_
    refine AWP.seq ?_
    refine AWP.region ?_
    refine Y (mv rfl) rfl ?_
    refine Y (ass rfl) rfl ?_
    refine AOps.nil ?_
    refine AWP.seq ?_
    refine AWP.region ?_
    refine Y (mv rfl) rfl ?_
    refine Y (mv rfl) rfl ?_
    refine Y (mv rfl) rfl ?_
    refine Y (Yields.idx_roN sl27 rfl rfl rfl rfl (by omega)) rfl ?_
    refine Y (Yields.load_rop_one kd9 rfl (strs_at hx) rfl) rfl ?_
    refine AOps.step (DStep.callf (inner_AF l x hl) rfl rfl (WkL.refl _) rfl) rfl ?_
    refine AOps.nil ?_
    refine AWP.condT rfl (fun g2 => ?_) (fun g2 => ?_)
    ·
     skip
     refine AWP.seq ?_
     refine AWP.region ?_
     rw [if_pos g2] at hp
     refine Y (mv rfl) rfl ?_
     refine Y (ass rfl) rfl ?_
     refine AOps.nil ?_
     refine AWP.ret ⟨.inl rfl, ?_⟩
     exact RetIs.oneV rfl rfl (by (rw [← hp]) <;> rfl)
    ·
     skip
     rw [if_neg (by rw [g2]; simp)] at hp
     refine AWP.skip ?_
     refine AWP.region ?_
     refine Y (bn rfl rfl (BinR.addI (by omega) (by omega)) rfl) rfl ?_
     refine Y (mv rfl) rfl ?_
     refine AOps.nil ?_
     refine ⟨i + 1, ?_, ?_, ?_⟩
     ·
      show u.length - (i + 1) < u.length - i
      omega
     ·
      show (i + 1) ≤ u.length ∧ idxF l (u.drop (i + 1)) (i + 1) = idxF l u 0
      exact ⟨by omega, hp⟩
     · exact Leads.rows 0 ⟨rfl, rfl, rfl, rfl, trivial⟩
   ·
    replace g := of_decide_eq_false g
    rw [List.drop_eq_nil_of_le (by omega), idxF] at hp
    refine AWP.exit ?_
    refine AWP.seq ?_
    refine AWP.region ?_
    refine Y (ass rfl) rfl ?_
    refine AOps.nil ?_
    refine AWP.ret ⟨.inl rfl, ?_⟩
    exact RetIs.oneV rfl rfl (by (rw [← hp]) <;> rfl)
theorem containsF_AF (l u : List ByteArray) (hl : l.length ≤ 4000000) (hu : u.length ≤ 4000000) : Fn 71 [.ro 1 (strs u) [] false, .fn 73 [capS l]] (bool (u.any (memB l))) := by
  refine AF.intro Tryz.func71 nm71 rfl rfl rfl rfl fun w0 ok0 => ?_
  refine AWP.seq ?_
  refine AWP.region ?_
  refine Y (ass rfl) rfl ?_
  refine AOps.nil ?_
  refine AWP.seq ?_
  refine AWP.region ?_
  refine Y (mv rfl) rfl ?_
  refine Y (mv rfl) rfl ?_
  refine AOps.callro (indexF_AF l u hl hu) rfl rfl rfl ?_
  refine Y (bn rfl rfl BinR.geq rfl) rfl ?_
  refine Y (ass rfl) rfl ?_
  refine AOps.nil ?_
  refine AWP.ret ⟨.inl rfl, ?_⟩
  exact RetIs.oneV rfl rfl (by (rw [dec_any]) <;> rfl)
theorem ilocals_AF (k : Tr) (hk : k.bnd 1000000) (p : List Int) (hp : p.length ≤ 1000000) (hs : (atT k p).isSome = true) : Fn 72 [k.av, .ro 1 (ints p) [] false] (.ro 1 (strs (locT k p)) [] false) :=
  AH.toF (by simp [plainL, plainV, Tr.plain_av]) (ilocals_AH k hk p hp hs) (fun r hp' h => ownS.fz h)
theorem saround_AF (k : Tr) (hk : k.bnd 1000000) (p : List Int) (hp : p.length ≤ 1000000) (hs : (atT k p).isSome = true) : Fn 40 [k.av, .ro 1 (ints p) [] false] (.ro 1 (strs (locT k p)) [] false) :=
  AH.toF (by simp [plainL, plainV, Tr.plain_av]) (saround_AH k hk p hp hs) (fun r hp' h => ownS.fz h)
theorem ifree_AF (k : Tr) (hk : k.bnd 1000000) (hz : sizeT k ≤ 2000000) (d : Int) (hd : 0 ≤ d) (hd2 : d ≤ 100) (hv : validS k d = true) : Fn 69 [k.av] (.ro 1 (strs (freeT k)) [] false) :=
  AH.toF (by simp [plainL, plainV, Tr.plain_av]) (ifree_AH k hk hz d hd hd2 hv) (fun r hp' h => ownS.fz h)
theorem sfreeR_AF (k : Tr) (hk : k.bnd 1000000) (hz : sizeT k ≤ 2000000) : Fn 39 [k.av] (.ro 1 (strs (freeT k)) [] false) :=
  AH.toF (by simp [plainL, plainV, Tr.plain_av]) (sfree_AH k hk hz) (fun r hp' h => ownS.fz h)
theorem caught_AF (k : Tr) (hk : k.bnd 1000000) (p : List Int) (hp : p.length ≤ 1000000) (hs : (atT k p).isSome = true) (l : List ByteArray) (hl : l.length ≤ 4000000) : Fn 70 [.ro 1 (ints p) [] false, .rop 4 [k.av] 0 0, capS l] (bool ((locT k p).any (memB l))) := by
  obtain ⟨kd, nm, t, ks⟩ := k
  have := locT_length p (.mk kd nm t ks)
  refine AF.intro Tryz.func70 nm70 rfl rfl rfl rfl fun w0 ok0 => ?_
  refine AWP.seq ?_
  refine AWP.region ?_
  refine Y (ass rfl) rfl ?_
  refine AOps.nil ?_
  refine AWP.seq ?_
  refine AWP.region ?_
  refine Y (Yields.load_rop_aggV kd25 rfl rfl rfl) rfl ?_
  refine Y (mv rfl) rfl ?_
  refine AOps.callro (ilocals_AF (.mk kd nm t ks) hk p hp hs) rfl rfl rfl ?_
  refine Y (Yields.makeFunc rfl rfl) rfl ?_
  refine AOps.callro (containsF_AF l (locT (.mk kd nm t ks) p) hl (by omega)) rfl rfl rfl ?_
  refine Y (ass rfl) rfl ?_
  refine AOps.nil ?_
  refine AWP.ret ⟨.inl rfl, ?_⟩
  exact RetIs.oneV rfl rfl (by (rfl) <;> rfl)
def sharedF (k x : Tr) (w : List Int) : Bool := sameT (atV k w) x && !(locT k w).any (memB (freeT x))
def sharedT (k : Tr) (p : List Int) : List (List Int) := if (locT k p).any (memB (freeT (atV k p))) = true then [] else (pathsT k).filter (sharedF k (atV k p))
theorem getPre {pre : List AV} {R : List (List Int)} {w : List Int} {i : Nat} (h : pre.length = i) : (pre ++ rowsO (w :: R))[i]? = some (.own 1 (ints w) []) := by
  subst h
  simp [rowsO]
theorem getPre2 {pre : List AV} {R : List (List Int)} {i : Nat} {v : AV} (h : pre.length = i) : ((pre ++ [v]) ++ rowsO R)[0 + i]? = some v := by
  subst h
  simp
theorem setPre {pre : List AV} {R : List (List Int)} {w : List Int} {i : Nat} {v : AV} (h : pre.length = i) : (pre ++ rowsO (w :: R)).set i v = (pre ++ [v]) ++ rowsO R := by
  subst h
  rw [List.set_append_right _ _ (Nat.le_refl _)]
  simp [rowsO]
theorem bor_intsN {hp : Hp} {B : Option Nat} {j : Nat} {l : List Int} (hj : hp[j]? = some (B, ⟨1, ints l⟩)) {len : Nat} (hl : len = l.length) : Bor hp (.loc B 0 len len 1) (.ro 1 (ints l) [] false) := by
  subst hl
  exact Bor.loc hj (by simp [ints_length]) (by rw [List.take_of_length_le (by simp [ints_length])]; exact viewL_ints l)
theorem ishared_AH (k : Tr) (hk : k.bnd 1000000) (hz : sizeT k ≤ 1000001) (hv : validS k 9 = true) (p : List Int) (hp : p.length ≤ 1000000) (hs : (atT k p).isSome = true) : FnH 36 [] [k.av, .ro 1 (ints p) [] false] (ownR (sharedT k p)) := by
  obtain ⟨⟨xk, xn, xt, xks⟩, hx⟩ := Option.isSome_iff_exists.1 hs
  have hxe : atV k p = .mk xk xn xt xks := by rw [atV, hx]; rfl
  have hxb := atV_bnd p k hk _ hx
  have hxz := atT_size p k _ hx
  have hxv := validS_at p k _ 9 (by omega) hv hx
  have hfl := freeT_length (.mk xk xn xt xks)
  have hpl := pathsT_length k
  have hpa := pathsT_at k
  have hps := pathsT_short k
  have atF := iat_AF k hk p hp
  rw [hxe, hs] at atF
  obtain ⟨kd, nm, t, ks⟩ := k
  obtain ⟨L, hL⟩ : ∃ L, pathsT (.mk kd nm t ks) = L := ⟨_, rfl⟩
  have pH := ipaths_AH (.mk kd nm t ks) hk (by omega)
  rw [hL] at pH
  have hLl : L.length ≤ 1000001 := by rw [hL] at hpl; omega
  refine AH.intro Tryz.func36 nm36 rfl rfl rfl fun w0 ok0 own0 => ?_
  refine AWP.seq ?_
  refine AWP.region ?_
  refine AOps.box rfl rfl rfl rfl fun b2 => ?_
  refine Y (ass rfl) rfl ?_
  refine AOps.nil ?_
  refine AWP.seq ?_
  refine AWP.region ?_
  refine Y (Yields.load_ptr_agg (j := 0) kd25 rfl rfl rfl rfl) rfl ?_
  refine Y (mv rfl) rfl ?_
  refine AOps.callro (atF) rfl rfl rfl ?_
  refine Y (mv rfl) rfl ?_
  refine Y (Yields.extract rfl rfl) rfl ?_
  refine Y (Yields.extract rfl rfl) rfl ?_
  refine AOps.alloc rfl z25 rfl rfl fun b5 => ?_
  refine AOps.store (j := 0) kd25 rfl rfl rfl rfl rfl rfl ?_
  refine Y (ass rfl) rfl ?_
  refine AOps.nil ?_
  refine AWP.seq ?_
  refine AWP.region ?_
  refine Y (Yields.load_ptr_agg (j := 0) kd25 rfl rfl rfl rfl) rfl ?_
  refine AOps.callro (ifree_AF (.mk xk xn xt xks) hxb (by omega) 9 (by omega) (by omega) hxv) rfl rfl rfl ?_
  refine AOps.alloc rfl z27 rfl rfl fun b7 => ?_
  refine AOps.store (j := 0) kd27 rfl rfl rfl rfl rfl rfl ?_
  refine AOps.nil ?_
  refine AWP.seq ?_
  refine AWP.region ?_
  refine AOps.leads (Leads.pull 2 rfl) ?_
  refine AOps.leads (Leads.freezeT 1 2 (.inl trivial) rfl ((Bor.ptr (j := 0) rfl (viewL_refl rfl)).fz)) ?_
  refine AOps.leads (Leads.freezeT 1 7 (.inl trivial) rfl ((Bor.ptr (j := 0) rfl (viewL_refl rfl)).fz)) ?_
  refine Y (Yields.makeFunc rfl rfl) rfl ?_
  refine Y (ass rfl) rfl ?_
  refine AOps.nil ?_
  refine AWP.seq ?_
  refine AWP.seq ?_
  refine AWP.region ?_
  refine Y (mv rfl) rfl ?_
  refine Y (mv rfl) rfl ?_
  refine AOps.step (DStep.callf (caught_AF (.mk kd nm t ks) hk p hp hs (freeT (.mk xk xn xt xks)) (by omega)) rfl rfl (WkL.refl _) rfl) rfl ?_
  refine AOps.nil ?_
  refine AWP.condT rfl (fun c => ?_) (fun c => ?_)
  ·
   skip
   refine AWP.seq ?_
   refine AWP.region ?_
   refine Y (ass rfl) rfl ?_
   refine AOps.nil ?_
   refine AWP.leads (Leads.own0 4 1 rfl) ?_
   refine AWP.ret ⟨.inl rfl, ?_⟩
   exact RetH.of (rs := [.tmp 4]) (vs := [_]) rfl ⟨rfl, trivial⟩ (KeepR.cons 0 rfl KeepR.nil) (⟨none, by rw [sharedT, hxe, if_pos c]; rfl, by rw [sharedT, hxe, if_pos c]; rfl⟩)
  ·
   skip
   have hc : ¬ (locT (.mk kd nm t ks) p).any (memB (freeT (.mk xk xn xt xks))) = true := by rw [c]; simp
   refine AWP.skip ?_
   refine AWP.seq ?_
   refine AWP.region ?_
   refine Y (ass rfl) rfl ?_
   refine AOps.nil ?_
   refine AWP.seq ?_
   refine AWP.seq ?_
   refine AWP.region ?_
   refine Y (Yields.load_rop_aggV kd25 rfl rfl rfl) rfl ?_
   refine AOps.callH (.inl trivial) (pH) rfl rfl rfl (WkL.refl _) ?_
   rintro _ _ ⟨Bp, rfl, rfl⟩
   refine Y (Yields.len_loc sl35 rfl) rfl ?_
   refine Y (mv rfl) rfl ?_
   refine AOps.nil ?_
   refine AWP.leads (Leads.own0 9 1 rfl) ?_
   refine AWP.block ?_
   refine AWP.loopV (α := Option Nat × Option Nat × List (List Int) × List AV × List (List Int) × Nat) (fun pp : Option Nat × Option Nat × List (List Int) × List AV × List (List Int) × Nat => match pp with | (B, Bp, M, pre, R, i) => ⟨[(2, .rop 4 [Tr.av (.mk kd nm t ks)] 0 0), (5, .ptr (some b5) 0 0 4), (8, .fn 70 [.rop 4 [Tr.av (.mk kd nm t ks)] 0 0, capS (freeT (.mk xk xn xt xks))]), (9, .loc B 0 M.length M.length 1), (27, .loc Bp 0 L.length L.length 1), (28, int L.length), (29, int i)], [(B, ⟨1, rowsO M⟩), (Bp, ⟨1, pre ++ rowsO R⟩), (some b5, ⟨4, [Tr.av (.mk xk xn xt xks)]⟩)]⟩) (fun pp : Option Nat × Option Nat × List (List Int) × List AV × List (List Int) × Nat => match pp with | (B, Bp, M, pre, R, i) => pre.length = i ∧ i + R.length = L.length ∧ M.length ≤ i ∧ M ++ R.filter (sharedF (.mk kd nm t ks) (.mk xk xn xt xks)) = L.filter (sharedF (.mk kd nm t ks) (.mk xk xn xt xks)) ∧ ∀ w ∈ R, w ∈ L) (fun pp : Option Nat × Option Nat × List (List Int) × List AV × List (List Int) × Nat => match pp with | (B, Bp, M, pre, R, i) => L.length - i) ((none, Bp, [], [], L, 0)) ?_ ?_ ?_
   · exact Leads.keepR (KeepR.cons 0 rfl (KeepR.cons 0 rfl (KeepR.cons 0 rfl KeepR.nil))) ⟨rfl, rfl, rfl, rfl, rfl, rfl, rfl, trivial⟩
   ·
    show ([]).length = 0 ∧ 0 + L.length = L.length ∧ ([]).length ≤ 0 ∧ ([]) ++ L.filter (sharedF (.mk kd nm t ks) (.mk xk xn xt xks)) = L.filter (sharedF (.mk kd nm t ks) (.mk xk xn xt xks)) ∧ ∀ w ∈ L, w ∈ L
    exact ⟨rfl, by simp, Nat.le_refl _, rfl, fun w hw => hw⟩
   ·
    rintro ⟨B, Bp, M, pre, R, i⟩ hinv
    replace hinv : pre.length = i ∧ i + R.length = L.length ∧ M.length ≤ i ∧ M ++ R.filter (sharedF (.mk kd nm t ks) (.mk xk xn xt xks)) = L.filter (sharedF (.mk kd nm t ks) (.mk xk xn xt xks)) ∧ ∀ w ∈ R, w ∈ L := hinv
    show AWP _ _ _ _ ⟨[(2, .rop 4 [Tr.av (.mk kd nm t ks)] 0 0), (5, .ptr (some b5) 0 0 4), (8, .fn 70 [.rop 4 [Tr.av (.mk kd nm t ks)] 0 0, capS (freeT (.mk xk xn xt xks))]), (9, .loc B 0 M.length M.length 1), (27, .loc Bp 0 L.length L.length 1), (28, int L.length), (29, int i)], [(B, ⟨1, rowsO M⟩), (Bp, ⟨1, pre ++ rowsO R⟩), (some b5, ⟨4, [Tr.av (.mk xk xn xt xks)]⟩)]⟩
    refine AWP.seq ?_
    refine AWP.region ?_
    obtain ⟨hpre, hR, hM, hf, hw⟩ := hinv
    refine Y (bn rfl rfl BinR.lss rfl) rfl ?_
    refine AOps.nil ?_
    refine AWP.seq ?_
    refine AWP.condT rfl (fun g => ?_) (fun g => ?_)
    ·
     replace g := of_decide_eq_true g
     refine AWP.skip ?_
     refine AWP.seq ?_
     obtain ⟨w, R', rfl⟩ : ∃ w R', R = w :: R' := by cases R with | nil => (simp at hR; omega) | cons a b => exact ⟨a, b, rfl⟩
     simp only [List.length_cons] at hR
     have hwL := hw w List.mem_cons_self
     have hws : (atT (.mk kd nm t ks) w).isSome = true := hpa w (hL ▸ hwL)
     have hwl := hps w (hL ▸ hwL)
     obtain ⟨⟨zk, zn, zt, zks⟩, hz1⟩ := Option.isSome_iff_exists.1 hws
     have hze : atV (.mk kd nm t ks) w = .mk zk zn zt zks := by rw [atV, hz1]; rfl
     have hzb := atV_bnd w (.mk kd nm t ks) hk _ hz1
     have hlw := ints_length w
     have fe : sharedF (.mk kd nm t ks) (.mk xk xn xt xks) w = (sameT (.mk zk zn zt zks) (.mk xk xn xt xks) && !(locT (.mk kd nm t ks) w).any (memB (freeT (.mk xk xn xt xks)))) := by rw [sharedF, hze]
     refine AWP.someRow 1 rfl (by intro e; have e := congrArg List.length e; simp [rowsO] at e) fun bp hsr => ?_
     subst hsr
     refine AWP.unseal 1 i rfl (getPre hpre) (OpenTo.ownV (m := 1) (ys := ints w)) fun Bi => ?_
     refine AWP.leads (Leads.rowEq 2 rfl (setPre hpre)) ?_
     refine AWP.block ?_
     refine AWP.seq ?_
     refine AWP.region ?_
     refine Y (Yields.idx_locN sl35 rfl rfl (j := i) rfl (by omega)) rfl ?_
     refine Y (Yields.load_ptr_one (j := 2) kd32 rfl rfl (getPre2 hpre) rfl rfl) rfl ?_
     refine AOps.leads (Leads.same (t := 32) rfl (show AV.loc Bi 0 (ints w).length (ints w).length 1 = .loc Bi 0 w.length w.length 1 by rw [hlw])) ?_
     have rF := iatR_AH (.mk kd nm t ks) hk Bi w (by omega)
     rw [hze, hws] at rF
     refine Y (ass rfl) rfl ?_
     refine AOps.nil ?_
     refine AWP.seq ?_
     refine AWP.region ?_
     refine Y (Yields.load_rop_aggV kd25 rfl rfl rfl) rfl ?_
     refine Y (mv rfl) rfl ?_
     refine AOps.callH (.inl trivial) (rF) rfl rfl rfl (WkL.refl _) ?_
     rintro _ _ ⟨rfl, rfl⟩
     refine Y (mv rfl) rfl ?_
     refine Y (Yields.extract rfl rfl) rfl ?_
     refine Y (Yields.extract rfl rfl) rfl ?_
     refine AOps.alloc rfl z25 rfl rfl fun b12 => ?_
     refine AOps.store (j := 0) kd25 rfl rfl rfl rfl rfl rfl ?_
     refine Y (ass rfl) rfl ?_
     refine AOps.nil ?_
     refine AWP.seq ?_
     refine AWP.region ?_
     refine Y (Yields.load_ptr_agg (j := 0) kd25 rfl rfl rfl rfl) rfl ?_
     refine Y (Yields.load_ptr_agg (j := 4) kd25 rfl rfl rfl rfl) rfl ?_
     refine AOps.callro (isame_AFExpr (.mk zk zn zt zks) (.mk xk xn xt xks) hzb) rfl rfl rfl ?_
     refine Y (mv rfl) rfl ?_
     refine AOps.split 42 rfl (fun g2 => ?_) (fun g2 => ?_)
     ·
      skip
      refine AOps.on rfl rfl ?_
      refine Y (mv rfl) rfl ?_
      refine AOps.on rfl rfl ?_
      refine Y (mv rfl) rfl ?_
      refine AOps.on rfl rfl ?_
      refine AOps.step (DStep.callfb (caught_AF (.mk kd nm t ks) hk w (by omega) hws (freeT (.mk xk xn xt xks)) (by omega)) rfl rfl ⟨bor_intsN (j := 1) rfl rfl, Bor.refl rfl, Bor.refl rfl, trivial⟩ rfl Free.val) rfl ?_
      refine AOps.on rfl rfl ?_
      refine Y (Yields.not rfl) rfl ?_
      refine Y (Yields.pick_true rfl rfl) rfl ?_
      refine AOps.nil ?_
      refine AWP.condT rfl (fun g3 => ?_) (fun g3 => ?_)
      ·
       skip
       refine AWP.region ?_
       rw [List.filter_cons_of_pos (by rw [fe, g2]; simpa using g3)] at hf
       refine Y (mv rfl) rfl ?_
       refine Y (mv rfl) rfl ?_
       refine AOps.buildSlice sl35 z32 rfl rfl rfl rfl rfl fun bs => ?_
       refine AOps.appendE (j := 3) sl35 z32 rfl rfl rfl rfl rfl (rowsO_length M) rfl (src_row (j2 := 0) rfl rfl rfl) (show M.length + 1 = (M ++ [w]).length by simp) rfl (by simp; omega) (by simp; omega) fun Bn => ?_
       refine AOps.leads (Leads.pull 2 rfl) ?_
       refine AOps.leads (Leads.seal 2 M.length rfl get_lastR (SealTo.locV hlw.symm (by omega))) ?_
       refine AOps.leads (Leads.rowEq 2 rfl set_lastR) ?_
       refine Y (ass rfl) rfl ?_
       refine AOps.nil ?_
       refine AWP.region ?_
       refine Y (bn rfl rfl (BinR.addI (by omega) (by omega)) rfl) rfl ?_
       refine Y (mv rfl) rfl ?_
       refine AOps.nil ?_
       refine ⟨(Bn, some bp, M ++ [w], pre ++ [AV.loc Bi 0 (ints w).length (ints w).length 1], R', i + 1), ?_, ?_, ?_⟩
       ·
        show L.length - (i + 1) < L.length - i
        omega
       ·
        show (pre ++ [AV.loc Bi 0 (ints w).length (ints w).length 1]).length = (i + 1) ∧ (i + 1) + R'.length = L.length ∧ (M ++ [w]).length ≤ (i + 1) ∧ (M ++ [w]) ++ R'.filter (sharedF (.mk kd nm t ks) (.mk xk xn xt xks)) = L.filter (sharedF (.mk kd nm t ks) (.mk xk xn xt xks)) ∧ ∀ w ∈ R', w ∈ L
        exact ⟨by simp [hpre], by omega, by simp; omega, by rw [← hf]; simp, fun u hu => hw u (List.mem_cons_of_mem _ hu)⟩
       · exact Leads.keepR (KeepR.cons 2 rfl (KeepR.cons 2 rfl (KeepR.cons 2 rfl KeepR.nil))) ⟨rfl, rfl, rfl, rfl, rfl, rfl, rfl, trivial⟩
      ·
       skip
       rw [List.filter_cons_of_neg (by rw [fe, g2]; simpa using g3)] at hf
       refine AWP.skip ?_
       refine AWP.region ?_
       refine Y (bn rfl rfl (BinR.addI (by omega) (by omega)) rfl) rfl ?_
       refine Y (mv rfl) rfl ?_
       refine AOps.nil ?_
       refine ⟨(B, some bp, M, pre ++ [AV.loc Bi 0 (ints w).length (ints w).length 1], R', i + 1), ?_, ?_, ?_⟩
       ·
        show L.length - (i + 1) < L.length - i
        omega
       ·
        show (pre ++ [AV.loc Bi 0 (ints w).length (ints w).length 1]).length = (i + 1) ∧ (i + 1) + R'.length = L.length ∧ M.length ≤ (i + 1) ∧ M ++ R'.filter (sharedF (.mk kd nm t ks) (.mk xk xn xt xks)) = L.filter (sharedF (.mk kd nm t ks) (.mk xk xn xt xks)) ∧ ∀ w ∈ R', w ∈ L
        exact ⟨by simp [hpre], by omega, by omega, hf, fun u hu => hw u (List.mem_cons_of_mem _ hu)⟩
       · exact Leads.keepR (KeepR.cons 2 rfl (KeepR.cons 2 rfl (KeepR.cons 2 rfl KeepR.nil))) ⟨rfl, rfl, rfl, rfl, rfl, rfl, rfl, trivial⟩
     ·
      skip
      rw [List.filter_cons_of_neg (by rw [fe]; simp [g2])] at hf
      refine AOps.off' rfl rfl rfl rfl ?_
      refine AOps.off' rfl rfl rfl rfl ?_
      refine AOps.off' rfl rfl rfl rfl ?_
      refine AOps.off' rfl rfl rfl rfl ?_
      refine Y (Yields.pick_false rfl rfl) rfl ?_
      refine AOps.nil ?_
      refine AWP.cond rfl (fun h => absurd h (by decide)) (fun _ => ?_)
      refine AWP.skip ?_
      refine AWP.region ?_
      refine Y (bn rfl rfl (BinR.addI (by omega) (by omega)) rfl) rfl ?_
      refine Y (mv rfl) rfl ?_
      refine AOps.nil ?_
      refine ⟨(B, some bp, M, pre ++ [AV.loc Bi 0 (ints w).length (ints w).length 1], R', i + 1), ?_, ?_, ?_⟩
      ·
       show L.length - (i + 1) < L.length - i
       omega
      ·
       show (pre ++ [AV.loc Bi 0 (ints w).length (ints w).length 1]).length = (i + 1) ∧ (i + 1) + R'.length = L.length ∧ M.length ≤ (i + 1) ∧ M ++ R'.filter (sharedF (.mk kd nm t ks) (.mk xk xn xt xks)) = L.filter (sharedF (.mk kd nm t ks) (.mk xk xn xt xks)) ∧ ∀ w ∈ R', w ∈ L
       exact ⟨by simp [hpre], by omega, by omega, hf, fun u hu => hw u (List.mem_cons_of_mem _ hu)⟩
      · exact Leads.keepR (KeepR.cons 2 rfl (KeepR.cons 2 rfl (KeepR.cons 2 rfl KeepR.nil))) ⟨rfl, rfl, rfl, rfl, rfl, rfl, rfl, trivial⟩
    ·
     replace g := of_decide_eq_false g
     have hR0 : R = [] := by cases R with | nil => rfl | cons a b => (simp at hR; omega)
     rw [hR0, List.filter_nil, List.append_nil] at hf
     have he : sharedT (.mk kd nm t ks) p = M := by rw [sharedT, hxe, if_neg hc, hL, hf]
     refine AWP.exit ?_
     refine AWP.seq ?_
     refine AWP.region ?_
     refine Y (mv rfl) rfl ?_
     refine Y (ass rfl) rfl ?_
     refine AOps.nil ?_
     refine AWP.ret ⟨.inl rfl, ?_⟩
     exact RetH.of (rs := [.tmp 4]) (vs := [_]) rfl ⟨rfl, trivial⟩ (KeepR.cons 0 rfl KeepR.nil) (⟨B, by rw [he]; rfl, by rw [he]⟩)
def sharedE (k : Tr) (p : List Int) : List (List Int) := if atB k p = true then sharedT k p else []
theorem sharedE_no {k : Tr} {p : List Int} (h : atB k p = false) : sharedE k p = [] := if_neg (by rw [h]; simp)
theorem sharedT_sub (k : Tr) (p : List Int) : ∀ w ∈ sharedT k p, w ∈ pathsT k := by
  intro w hw
  unfold sharedT at hw
  split at hw
  · cases hw
  · exact (List.mem_filter.1 hw).1
theorem sharedE_sub (k : Tr) (p : List Int) : ∀ w ∈ sharedE k p, w ∈ pathsT k := by
  intro w hw
  unfold sharedE at hw
  split at hw
  · exact sharedT_sub k p w hw
  · cases hw
theorem sharedT_length (k : Tr) (p : List Int) : (sharedT k p).length ≤ (pathsT k).length := by
  unfold sharedT
  split
  · simp
  · exact List.length_filter_le _ _
theorem sharedE_length (k : Tr) (p : List Int) : (sharedE k p).length ≤ (pathsT k).length := by
  unfold sharedE
  split
  · exact sharedT_length k p
  · simp
theorem iSharedPaths_AH (k : Tr) (hk : k.bnd 1000000) (hz : sizeT k ≤ 1000001) (p : List Int) (hp : p.length ≤ 1000000) : FnH 12 [] [k.av, .ro 1 (ints p) [] false] (ownR (sharedE k p)) := by
  have atF := iat_AF k hk p hp
  obtain ⟨kd, nm, t, ks⟩ := k
  refine trElim' (atV (.mk kd nm t ks) p) fun zk zn zt zks hzz => ?_
  rw [hzz] at atF
  refine AH.intro Tryz.func12 nm12 rfl rfl rfl fun w0 ok0 own0 => ?_
  refine AWP.seq ?_
  refine AWP.region ?_
  refine AOps.box rfl rfl rfl rfl fun b2 => ?_
  refine Y (ass rfl) rfl ?_
  refine AOps.nil ?_
  refine AWP.seq ?_
  refine AWP.seq ?_
  refine AWP.region ?_
  refine Y (Yields.load_ptr_agg (j := 0) kd25 rfl rfl rfl rfl) rfl ?_
  refine AOps.callro (iExprOk_AF' (.mk kd nm t ks) hk) rfl rfl rfl ?_
  refine Y (Yields.not rfl) rfl ?_
  refine AOps.nil ?_
  refine AWP.condT rfl (fun h => ?_) (fun h => ?_)
  ·
   skip
   refine AWP.seq ?_
   refine AWP.region ?_
   have h : atB (.mk kd nm t ks) p = false := by rw [atB]; simp at h; rw [h]; rfl
   refine Y (ass rfl) rfl ?_
   refine AOps.nil ?_
   refine AWP.leads (Leads.own0 4 1 rfl) ?_
   refine AWP.ret ⟨.inl rfl, ?_⟩
   exact RetH.of (rs := [.tmp 4]) (vs := [_]) rfl ⟨rfl, trivial⟩ (KeepR.cons 0 rfl KeepR.nil) (⟨none, by rw [sharedE_no h]; rfl, by rw [sharedE_no h]; rfl⟩)
  ·
   skip
   have h : okE (.mk kd nm t ks) = true := by simpa using h
   refine AWP.skip ?_
   refine AWP.seq ?_
   refine AWP.seq ?_
   refine AWP.region ?_
   refine Y (Yields.load_ptr_agg (j := 0) kd25 rfl rfl rfl rfl) rfl ?_
   refine Y (mv rfl) rfl ?_
   refine AOps.callro (atF) rfl rfl rfl ?_
   refine Y (mv rfl) rfl ?_
   refine Y (Yields.extract rfl rfl) rfl ?_
   refine Y (Yields.extract rfl rfl) rfl ?_
   refine AOps.alloc rfl z25 rfl rfl fun b5 => ?_
   refine AOps.store (j := 0) kd25 rfl rfl rfl rfl rfl rfl ?_
   refine Y (ass rfl) rfl ?_
   refine AOps.nil ?_
   refine AWP.seq ?_
   refine AWP.region ?_
   refine Y (mv rfl) rfl ?_
   refine Y (Yields.not rfl) rfl ?_
   refine AOps.nil ?_
   refine AWP.condT rfl (fun h2 => ?_) (fun h2 => ?_)
   ·
    skip
    refine AWP.seq ?_
    refine AWP.region ?_
    have h2 : atB (.mk kd nm t ks) p = false := by rw [atB, h]; simp at h2; simp [h2]
    refine Y (ass rfl) rfl ?_
    refine AOps.nil ?_
    refine AWP.leads (Leads.own0 4 1 rfl) ?_
    refine AWP.ret ⟨.inl rfl, ?_⟩
    exact RetH.of (rs := [.tmp 4]) (vs := [_]) rfl ⟨rfl, trivial⟩ (KeepR.cons 0 rfl KeepR.nil) (⟨none, by rw [sharedE_no h2]; rfl, by rw [sharedE_no h2]; rfl⟩)
   ·
    skip
    have h2 : atB (.mk kd nm t ks) p = true := by rw [atB, h]; simpa using h2
    have hs : (atT (.mk kd nm t ks) p).isSome = true := by rw [atB, h] at h2; simpa using h2
    refine AWP.skip ?_
    refine AWP.seq ?_
    refine AWP.region ?_
    refine Y (Yields.load_ptr_agg (j := 1) kd25 rfl rfl rfl rfl) rfl ?_
    refine Y (mv rfl) rfl ?_
    refine AOps.callH (.inl trivial) (ishared_AH (.mk kd nm t ks) hk hz (okE_valid h) p hp hs) rfl rfl rfl (WkL.refl _) ?_
    rintro _ _ ⟨Bc, rfl, rfl⟩
    refine Y (ass rfl) rfl ?_
    refine AOps.nil ?_
    refine AWP.ret ⟨.inl rfl, ?_⟩
    exact RetH.of (rs := [.tmp 4]) (vs := [_]) rfl ⟨rfl, trivial⟩ (KeepR.cons 0 rfl KeepR.nil) (⟨Bc, by rw [sharedE, if_pos h2]; rfl, by rw [sharedE, if_pos h2]⟩)
theorem iSharedPaths_AF (k : Tr) (hk : k.bnd 1000000) (hz : sizeT k ≤ 1000001) (p : List Int) (hp : p.length ≤ 1000000) : Fn 12 [k.av, .ro 1 (ints p) [] false] (.ro 1 (rowsR (sharedE k p)) [] false) :=
  AH.toF (by simp [plainL, plainV, Tr.plain_av]) (iSharedPaths_AH k hk hz p hp) (fun r hp' h => ownR.fz h)
theorem any_comm (a b : List ByteArray) : a.any (memB b) = b.any (memB a) := by
  rw [Bool.eq_iff_iff, List.any_eq_true, List.any_eq_true]
  constructor
  · rintro ⟨x, h1, h2⟩; exact ⟨x, memB_iff.1 h2, memB_iff.2 h1⟩
  · rintro ⟨x, h1, h2⟩; exact ⟨x, memB_iff.1 h2, memB_iff.2 h1⟩
theorem meets_AF (a b : List ByteArray) (ha : a.length ≤ 4000000) (hb : b.length ≤ 4000000) : Fn 38 [.ro 1 (strs a) [] false, .ro 1 (strs b) [] false] (bool (a.any (memB b))) := by
  have hla := strs_length a
  refine AF.intro Tryz.func38 nm38 rfl rfl rfl rfl fun w0 ok0 => ?_
  refine AWP.seq ?_
  refine AWP.region ?_
  refine Y (ass rfl) rfl ?_
  refine AOps.nil ?_
  refine AWP.seq ?_
  refine AWP.seq ?_
  refine AWP.region ?_
  refine Y (ass rfl) rfl ?_
  refine AOps.nil ?_
  refine AWP.block ?_
  refine AWP.loopV (α := Nat) (fun i : Nat => ⟨[(0, .ro 1 (strs a) [] false), (1, .ro 1 (strs b) [] false), (5, int i)], []⟩) (fun i : Nat => i ≤ a.length ∧ (a.drop i).any (memB b) = a.any (memB b)) (fun i : Nat => a.length - i) (0) ?_ ?_ ?_
  · exact Leads.rows 0 ⟨rfl, rfl, rfl, trivial⟩
  ·
   show 0 ≤ a.length ∧ (a.drop 0).any (memB b) = a.any (memB b)
   exact ⟨Nat.zero_le _, rfl⟩
  ·
   rintro i hinv
   refine AWP.seq ?_
   refine AWP.seq ?_
   refine AWP.region ?_
   obtain ⟨hi, hp⟩ := hinv
   refine Y (mv rfl) rfl ?_
   refine Y (mv rfl) rfl ?_
   refine Y (Yields.len_ro sl27 rfl) rfl ?_
   refine Y (bn rfl rfl BinR.lss rfl) rfl ?_
   refine AOps.nil ?_
   refine AWP.condT rfl (fun g => ?_) (fun g => ?_)
   ·
    replace g := of_decide_eq_true g
    obtain ⟨x, hx, hd⟩ := drop_at (l := a) (i := i) (by omega)
    rw [hd, List.any_cons] at hp
    refine AWP.skip ?_
    refine AWP.seq ?_
    refine AWP.block ?_
    refine AWP.seq ?_
    refine AWP.region ?_
    refine Y (mv rfl) rfl ?_
    refine Y (mv rfl) rfl ?_
    refine Y (mv rfl) rfl ?_
    refine Y (Yields.idx_roN sl27 rfl rfl rfl rfl (by omega)) rfl ?_
    refine Y (Yields.load_rop_one kd9 rfl (strs_at hx) rfl) rfl ?_
    refine AOps.callro (inTexts_AF b [] false x (by omega)) rfl rfl rfl ?_
    refine AOps.nil ?_
    refine AWP.condT rfl (fun g2 => ?_) (fun g2 => ?_)
    ·
     skip
     refine AWP.seq ?_
     refine AWP.region ?_
     refine Y (ass rfl) rfl ?_
     refine AOps.nil ?_
     refine AWP.ret ⟨.inl rfl, ?_⟩
     exact RetIs.oneV rfl rfl (by (rw [← hp, g2]; rfl) <;> rfl)
    ·
     skip
     rw [g2, Bool.false_or] at hp
     refine AWP.skip ?_
     refine AWP.region ?_
     refine Y (mv rfl) rfl ?_
     refine Y (bn rfl rfl (BinR.addI (by omega) (by omega)) rfl) rfl ?_
     refine Y (ass rfl) rfl ?_
     refine AOps.nil ?_
     refine ⟨i + 1, ?_, ?_, ?_⟩
     ·
      show a.length - (i + 1) < a.length - i
      omega
     ·
      show (i + 1) ≤ a.length ∧ (a.drop (i + 1)).any (memB b) = a.any (memB b)
      exact ⟨by omega, hp⟩
     · exact Leads.rows 0 ⟨rfl, rfl, rfl, trivial⟩
   ·
    replace g := of_decide_eq_false g
    rw [List.drop_eq_nil_of_le (by omega), List.any_nil] at hp
    refine AWP.exit ?_
    refine AWP.seq ?_
    refine AWP.region ?_
    refine Y (ass rfl) rfl ?_
    refine AOps.nil ?_
    refine AWP.ret ⟨.inl rfl, ?_⟩
    exact RetIs.oneV rfl rfl (by (rw [← hp]) <;> rfl)
theorem sbelowR_AF (k : Tr) (hk : k.bnd 1000000) (hz : sizeT k ≤ 2000000) : Fn 47 [k.av, .ro 1 (ints []) [] false] (.ro 1 (rowsR (pathsT k)) [] false) := by
  have := sbelow_AH k [] hk (by simpa using hz)
  rw [behind_nil] at this
  exact AH.toF (by simp [plainL, plainV, Tr.plain_av]) this (fun r hp' h => ownR.fz h)
theorem rowsR_app (L : List (List Int)) (p : List Int) : rowsR L ++ [.ro 1 (ints p) [] false] = rowsR (L ++ [p]) := by simp [rowsR]
theorem fz_rowsR {B : Option Nat} {L : List (List Int)} {len : Nat} (hl : len = L.length) : Fz [(B, ⟨1, rowsR L⟩)] (.loc B 0 len len 1) (.ro 1 (rowsR L) [] false) := by
  subst hl
  exact (Bor.loc (j := 0) rfl (by simp [rowsR_length]) (by rw [List.take_of_length_le (by simp [rowsR_length])]; exact viewL_refl (plain_rowsR L))).fz
theorem sharedIn_AH (k x : Tr) (hk : k.bnd 1000000) (hz : sizeT k ≤ 1000001) (hx : x.bnd 1000000) (hxz : sizeT x ≤ 1000001) : FnH 41 [] [k.av, x.av] (isV' (.ro 1 (rowsR ((pathsT k).filter (sharedF k x))) [] false)) := by
  have hpl := pathsT_length k
  have hpa := pathsT_at k
  have hps := pathsT_short k
  have hfl := freeT_length x
  have bF := sbelowR_AF k hk (by omega)
  obtain ⟨kd, nm, t, ks⟩ := k
  obtain ⟨xk, xn, xt, xks⟩ := x
  obtain ⟨L, hL⟩ : ∃ L, pathsT (.mk kd nm t ks) = L := ⟨_, rfl⟩
  rw [hL] at bF hpl
  have hLr := rowsR_length L
  rw [hL]
  refine AH.intro Tryz.func41 nm41 rfl rfl rfl fun w0 ok0 own0 => ?_
  refine AWP.seq ?_
  refine AWP.region ?_
  refine AOps.box rfl rfl rfl rfl fun b2 => ?_
  refine AOps.box rfl rfl rfl rfl fun b3 => ?_
  refine Y (ass rfl) rfl ?_
  refine AOps.nil ?_
  refine AWP.seq ?_
  refine AWP.region ?_
  refine AOps.buildSlice sl35 z32 rfl rfl rfl rfl rfl fun b5 => ?_
  refine Y (ass rfl) rfl ?_
  refine AOps.nil ?_
  refine AWP.seq ?_
  refine AWP.region ?_
  refine Y (Yields.load_ptr_agg (j := 2) kd25 rfl rfl rfl rfl) rfl ?_
  refine AOps.callw (bF) rfl rfl ⟨Wk.refl _, Wk.nil, trivial⟩ rfl ?_
  refine Y (ass rfl) rfl ?_
  refine AOps.nil ?_
  refine AWP.seq ?_
  refine AWP.seq ?_
  refine AWP.region ?_
  refine Y (ass rfl) rfl ?_
  refine AOps.nil ?_
  refine AWP.block ?_
  refine AWP.loopV (α := Option Nat × List (List Int) × Nat) (fun pp : Option Nat × List (List Int) × Nat => match pp with | (B, M, i) => ⟨[(2, .ptr (some b2) 0 0 4), (3, .ptr (some b3) 0 0 4), (5, .loc B 0 M.length M.length 1), (6, .ro 1 (rowsR L) [] false), (7, int i)], [(B, ⟨1, rowsR M⟩), (some b2, ⟨4, [Tr.av (.mk kd nm t ks)]⟩), (some b3, ⟨4, [Tr.av (.mk xk xn xt xks)]⟩)]⟩) (fun pp : Option Nat × List (List Int) × Nat => match pp with | (B, M, i) => i ≤ L.length ∧ M.length ≤ i ∧ M ++ (L.drop i).filter (sharedF (.mk kd nm t ks) (.mk xk xn xt xks)) = L.filter (sharedF (.mk kd nm t ks) (.mk xk xn xt xks))) (fun pp : Option Nat × List (List Int) × Nat => match pp with | (B, M, i) => L.length - i) ((some b5, [], 0)) ?_ ?_ ?_
  · exact Leads.keepR (KeepR.cons 0 rfl (KeepR.cons 1 rfl (KeepR.cons 0 rfl KeepR.nil))) ⟨rfl, rfl, rfl, rfl, rfl, trivial⟩
  ·
   show 0 ≤ L.length ∧ ([]).length ≤ 0 ∧ ([]) ++ (L.drop 0).filter (sharedF (.mk kd nm t ks) (.mk xk xn xt xks)) = L.filter (sharedF (.mk kd nm t ks) (.mk xk xn xt xks))
   exact ⟨Nat.zero_le _, Nat.zero_le _, rfl⟩
  ·
   rintro ⟨B, M, i⟩ hinv
   replace hinv : i ≤ L.length ∧ M.length ≤ i ∧ M ++ (L.drop i).filter (sharedF (.mk kd nm t ks) (.mk xk xn xt xks)) = L.filter (sharedF (.mk kd nm t ks) (.mk xk xn xt xks)) := hinv
   show AWP _ _ _ _ ⟨[(2, .ptr (some b2) 0 0 4), (3, .ptr (some b3) 0 0 4), (5, .loc B 0 M.length M.length 1), (6, .ro 1 (rowsR L) [] false), (7, int i)], [(B, ⟨1, rowsR M⟩), (some b2, ⟨4, [Tr.av (.mk kd nm t ks)]⟩), (some b3, ⟨4, [Tr.av (.mk xk xn xt xks)]⟩)]⟩
   refine AWP.seq ?_
   refine AWP.seq ?_
   refine AWP.region ?_
   obtain ⟨hi, hM, hf⟩ := hinv
   refine Y (mv rfl) rfl ?_
   refine Y (mv rfl) rfl ?_
   refine Y (Yields.len_ro sl35 rfl) rfl ?_
   refine Y (bn rfl rfl BinR.lss rfl) rfl ?_
   refine AOps.nil ?_
   refine AWP.condT rfl (fun g => ?_) (fun g => ?_)
   ·
    replace g := of_decide_eq_true g
    replace g : (i : Int) < ((rowsR L).length : Int) := g
    obtain ⟨w, hw, hd⟩ := drop_at (l := L) (i := i) (by omega)
    have hwL := List.mem_of_getElem? hw
    have hws : (atT (.mk kd nm t ks) w).isSome = true := hpa w (hL ▸ hwL)
    have hwl := hps w (hL ▸ hwL)
    have hll := locT_length w (.mk kd nm t ks)
    obtain ⟨⟨zk, zn, zt, zks⟩, hz1⟩ := Option.isSome_iff_exists.1 hws
    have hze : atV (.mk kd nm t ks) w = .mk zk zn zt zks := by rw [atV, hz1]; rfl
    have hzb := atV_bnd w (.mk kd nm t ks) hk _ hz1
    have fe : sharedF (.mk kd nm t ks) (.mk xk xn xt xks) w = (sameT (.mk zk zn zt zks) (.mk xk xn xt xks) && !(locT (.mk kd nm t ks) w).any (memB (freeT (.mk xk xn xt xks)))) := by rw [sharedF, hze]
    have pF := spart_AF (.mk kd nm t ks) hk w (by omega)
    rw [hze, hws] at pF
    have aF := saround_AF (.mk kd nm t ks) hk w (by omega) hws
    rw [hd] at hf
    refine AWP.skip ?_
    refine AWP.seq ?_
    refine AWP.block ?_
    refine AWP.seq ?_
    refine AWP.prune (tm' := [(2, _), (3, _), (5, _), (6, _), (7, _), (16, _)]) ⟨rfl, rfl, rfl, rfl, rfl, rfl, trivial⟩ ?_
    refine AWP.drawnM [] [.pure 0, .pure 1, .pure 2, .pure 3, .pure 4, .pure 5, .pure 6, .pure 7, .pure 8, .pure 9, .spine 10 [9] [0, 1, 2, 3, 4, 5, 6, 7, 9], .pure 11] mixed rfl rfl rfl rfl rfl ?_
    refine DM.pure (GX (tm' := [(2, _)]) rfl ⟨rfl, trivial⟩ rfl (DStep.yields (Yields.load_ptr_agg (j := 1) kd25 rfl rfl rfl rfl)) rfl) ?_
    refine DM.pure (GX (tm' := [(6, _)]) rfl ⟨rfl, trivial⟩ rfl (DStep.yields (mv rfl)) rfl) ?_
    refine DM.pure (GX (tm' := [(7, _)]) rfl ⟨rfl, trivial⟩ rfl (DStep.yields (mv rfl)) rfl) ?_
    refine DM.pure (GX (tm' := [(21, _), (22, _)]) rfl ⟨rfl, rfl, trivial⟩ rfl (DStep.yields (Yields.idx_roN sl35 rfl rfl rfl rfl (by omega))) rfl) ?_
    refine DM.pure (GX (tm' := [(23, _)]) rfl ⟨rfl, trivial⟩ rfl (DStep.yields (Yields.load_rop_one kd32 rfl (rowsR_at hw) rfl)) rfl) ?_
    refine DM.pure (GX (tm' := [(20, _), (24, _)]) rfl ⟨rfl, rfl, trivial⟩ rfl (DStep.callro (pF) rfl rfl) rfl) ?_
    refine DM.pure (GX (tm' := [(25, _)]) rfl ⟨rfl, trivial⟩ rfl (DStep.yields (mv rfl)) rfl) ?_
    refine DM.pure (GX (tm' := [(19, _)]) rfl ⟨rfl, trivial⟩ rfl (DStep.yields (Yields.extract rfl rfl)) rfl) ?_
    refine DM.pure (GX (tm' := [(19, _)]) rfl ⟨rfl, trivial⟩ rfl (DStep.yields (Yields.extract rfl rfl)) rfl) ?_
    refine DM.pure (GXs (tm' := []) rfl trivial rfl rfl (DStepU.alloc z25 rfl rfl) rfl) ?_
    refine DM.sp rfl rfl ?_
    refine DOpen.optr rfl fun b8 => ?_
    refine DOpen.nil fun _ _ _ => ?_
    refine AOps.subT (tm' := [(8, _), (26, _)]) ⟨rfl, rfl, trivial⟩ ?_
    refine AOps.store (j := 0) kd25 rfl rfl rfl rfl rfl rfl ?_
    refine AOps.nil ?_
    refine SpK.mk0 ?_ ?_
    ·
     skip
     refine Stab.skip rfl ?_
     refine Stab.keep (GX (tm' := [(19, _)]) rfl ⟨rfl, trivial⟩ rfl (DStep.yields (Yields.extract rfl rfl)) rfl) ?_
     refine Stab.skip rfl ?_
     refine Stab.skip rfl ?_
     refine Stab.skip rfl ?_
     refine Stab.skip rfl ?_
     refine Stab.skip rfl ?_
     refine Stab.skip rfl ?_
     refine Stab.skip rfl ?_
     refine Stab.skip rfl ?_
     exact trivial
    refine DM.pure (GX (tm' := [(27, _)]) rfl ⟨rfl, trivial⟩ rfl (DStep.yields (ass rfl)) rfl) ?_
    refine DM.nil ?_
    refine AWP.seq ?_
    refine AWP.prune (tm' := [(2, _), (3, _), (5, _), (6, _), (7, _), (16, _), (8, _)]) ⟨rfl, rfl, rfl, rfl, rfl, rfl, rfl, trivial⟩ ?_
    refine AWP.drawn mixed rfl rfl ?_
    refine D (tm' := [(8, _)]) ⟨rfl, trivial⟩ (DStep.yields (Yields.load_ptr_agg (j := 0) kd25 rfl rfl rfl rfl)) rfl ?_
    refine D (tm' := [(3, _)]) ⟨rfl, trivial⟩ (DStep.yields (Yields.load_ptr_agg (j := 3) kd25 rfl rfl rfl rfl)) rfl ?_
    refine D (tm' := [(28, _), (29, _)]) ⟨rfl, rfl, trivial⟩ (DStep.callro (ssame_AFExpr (.mk zk zn zt zks) (.mk xk xn xt xks) hzb) rfl rfl) rfl ?_
    refine D (tm' := [(30, _)]) ⟨rfl, trivial⟩ (DStep.yields (mv rfl)) rfl ?_
    refine DOps.split 3 rfl (fun g2 => ?_) (fun g2 => ?_)
    ·
     skip
     refine DOps.on rfl rfl ?_
     refine D (tm' := [(3, _)]) ⟨rfl, trivial⟩ (DStep.yields (Yields.load_ptr_agg (j := 3) kd25 rfl rfl rfl rfl)) rfl ?_
     refine DOps.on rfl rfl ?_
     refine D (tm' := [(32, _)]) ⟨rfl, trivial⟩ (DStep.callro (sfreeR_AF (.mk xk xn xt xks) hx (by omega)) rfl rfl) rfl ?_
     refine DOps.on rfl rfl ?_
     refine D (tm' := [(2, _)]) ⟨rfl, trivial⟩ (DStep.yields (Yields.load_ptr_agg (j := 2) kd25 rfl rfl rfl rfl)) rfl ?_
     refine DOps.on rfl rfl ?_
     refine D (tm' := [(6, _)]) ⟨rfl, trivial⟩ (DStep.yields (mv rfl)) rfl ?_
     refine DOps.on rfl rfl ?_
     refine D (tm' := [(7, _)]) ⟨rfl, trivial⟩ (DStep.yields (mv rfl)) rfl ?_
     refine DOps.on rfl rfl ?_
     refine D (tm' := [(35, _), (36, _)]) ⟨rfl, rfl, trivial⟩ (DStep.yields (Yields.idx_roN sl35 rfl rfl rfl rfl (by omega))) rfl ?_
     refine DOps.on rfl rfl ?_
     refine D (tm' := [(37, _)]) ⟨rfl, trivial⟩ (DStep.yields (Yields.load_rop_one kd32 rfl (rowsR_at hw) rfl)) rfl ?_
     refine DOps.on rfl rfl ?_
     refine D (tm' := [(34, _), (38, _)]) ⟨rfl, rfl, trivial⟩ (DStep.callro (aF) rfl rfl) rfl ?_
     refine DOps.on rfl rfl ?_
     refine D (tm' := [(33, _), (39, _)]) ⟨rfl, rfl, trivial⟩ (DStep.callro (meets_AF (freeT (.mk xk xn xt xks)) (locT (.mk kd nm t ks) w) (by omega) (by omega)) rfl rfl) rfl ?_
     refine DOps.on rfl rfl ?_
     refine D (tm' := [(40, _)]) ⟨rfl, trivial⟩ (DStep.yields (Yields.not rfl)) rfl ?_
     refine D (tm' := [(31, _), (41, _)]) ⟨rfl, rfl, trivial⟩ (DStep.yields (Yields.pick_true rfl rfl)) rfl ?_
     refine DOps.nil ?_
     refine AWP.condT rfl (fun g3 => ?_) (fun g3 => ?_)
     ·
      skip
      refine AWP.region ?_
      rw [List.filter_cons_of_pos (by rw [fe, g2, any_comm]; simpa using g3)] at hf
      refine Y (mv rfl) rfl ?_
      refine Y (mv rfl) rfl ?_
      refine Y (mv rfl) rfl ?_
      refine Y (Yields.idx_roN sl35 rfl rfl rfl rfl (by omega)) rfl ?_
      refine Y (Yields.load_rop_one kd32 rfl (rowsR_at hw) rfl) rfl ?_
      refine AOps.buildSlice sl35 z32 rfl rfl rfl rfl rfl fun bs => ?_
      refine AOps.appendE (j := 2) sl35 z32 rfl rfl rfl rfl rfl (rowsR_length M) rfl (src_row (j2 := 0) rfl rfl rfl) (show M.length + 1 = (M ++ [w]).length by simp) (rowsR_app M w) (by simp; omega) (by simp; omega) fun Bn => ?_
      refine Y (ass rfl) rfl ?_
      refine AOps.nil ?_
      refine AWP.region ?_
      refine Y (mv rfl) rfl ?_
      refine Y (bn rfl rfl (BinR.addI (by omega) (by omega)) rfl) rfl ?_
      refine Y (ass rfl) rfl ?_
      refine AOps.nil ?_
      refine ⟨(Bn, M ++ [w], i + 1), ?_, ?_, ?_⟩
      ·
       show L.length - (i + 1) < L.length - i
       omega
      ·
       show (i + 1) ≤ L.length ∧ (M ++ [w]).length ≤ (i + 1) ∧ (M ++ [w]) ++ (L.drop (i + 1)).filter (sharedF (.mk kd nm t ks) (.mk xk xn xt xks)) = L.filter (sharedF (.mk kd nm t ks) (.mk xk xn xt xks))
       exact ⟨by omega, by simp; omega, by rw [← hf]; simp⟩
      · exact Leads.keepR (KeepR.cons 2 rfl (KeepR.cons 2 rfl (KeepR.cons 2 rfl KeepR.nil))) ⟨rfl, rfl, rfl, rfl, rfl, trivial⟩
     ·
      skip
      rw [List.filter_cons_of_neg (by rw [fe, g2, any_comm]; simpa using g3)] at hf
      refine AWP.skip ?_
      refine AWP.region ?_
      refine Y (mv rfl) rfl ?_
      refine Y (bn rfl rfl (BinR.addI (by omega) (by omega)) rfl) rfl ?_
      refine Y (ass rfl) rfl ?_
      refine AOps.nil ?_
      refine ⟨(B, M, i + 1), ?_, ?_, ?_⟩
      ·
       show L.length - (i + 1) < L.length - i
       omega
      ·
       show (i + 1) ≤ L.length ∧ M.length ≤ (i + 1) ∧ M ++ (L.drop (i + 1)).filter (sharedF (.mk kd nm t ks) (.mk xk xn xt xks)) = L.filter (sharedF (.mk kd nm t ks) (.mk xk xn xt xks))
       exact ⟨by omega, by omega, hf⟩
      · exact Leads.keepR (KeepR.cons 1 rfl (KeepR.cons 1 rfl (KeepR.cons 1 rfl KeepR.nil))) ⟨rfl, rfl, rfl, rfl, rfl, trivial⟩
    ·
     skip
     rw [List.filter_cons_of_neg (by rw [fe]; simp [g2])] at hf
     refine DOps.off rfl rfl rfl rfl ?_
     refine DOps.off rfl rfl rfl rfl ?_
     refine DOps.off rfl rfl rfl rfl ?_
     refine DOps.off rfl rfl rfl rfl ?_
     refine DOps.off rfl rfl rfl rfl ?_
     refine DOps.off rfl rfl rfl rfl ?_
     refine DOps.off rfl rfl rfl rfl ?_
     refine DOps.off rfl rfl rfl rfl ?_
     refine DOps.off rfl rfl rfl rfl ?_
     refine DOps.off rfl rfl rfl rfl ?_
     refine D (tm' := [(31, _), (41, _)]) ⟨rfl, rfl, trivial⟩ (DStep.yields (Yields.pick_false rfl rfl)) rfl ?_
     refine DOps.nil ?_
     refine AWP.cond rfl (fun h => absurd h (by decide)) (fun _ => ?_)
     refine AWP.skip ?_
     refine AWP.region ?_
     refine Y (mv rfl) rfl ?_
     refine Y (bn rfl rfl (BinR.addI (by omega) (by omega)) rfl) rfl ?_
     refine Y (ass rfl) rfl ?_
     refine AOps.nil ?_
     refine ⟨(B, M, i + 1), ?_, ?_, ?_⟩
     ·
      show L.length - (i + 1) < L.length - i
      omega
     ·
      show (i + 1) ≤ L.length ∧ M.length ≤ (i + 1) ∧ M ++ (L.drop (i + 1)).filter (sharedF (.mk kd nm t ks) (.mk xk xn xt xks)) = L.filter (sharedF (.mk kd nm t ks) (.mk xk xn xt xks))
      exact ⟨by omega, by omega, hf⟩
     · exact Leads.keepR (KeepR.cons 1 rfl (KeepR.cons 1 rfl (KeepR.cons 1 rfl KeepR.nil))) ⟨rfl, rfl, rfl, rfl, rfl, trivial⟩
   ·
    replace g := of_decide_eq_false g
    replace g : ¬ (i : Int) < ((rowsR L).length : Int) := g
    rw [List.drop_eq_nil_of_le (by omega), List.filter_nil, List.append_nil] at hf
    refine AWP.exit ?_
    refine AWP.seq ?_
    refine AWP.region ?_
    refine Y (mv rfl) rfl ?_
    refine AOps.leads (Leads.freezeT 1 50 (.inl trivial) rfl (fz_rowsR rfl)) ?_
    refine Y (ass rfl) rfl ?_
    refine AOps.nil ?_
    refine AWP.ret ⟨.inl rfl, ?_⟩
    exact RetH.of (rs := [.tmp 4]) (vs := [_]) rfl ⟨rfl, trivial⟩ KeepR.nil (⟨by rw [← hf]; rfl, rfl⟩)
theorem sharedIn_AF (k x : Tr) (hk : k.bnd 1000000) (hz : sizeT k ≤ 1000001) (hx : x.bnd 1000000) (hxz : sizeT x ≤ 1000001) : Fn 41 [k.av, x.av] (.ro 1 (rowsR ((pathsT k).filter (sharedF k x))) [] false) :=
  AH.toF (by simp [plainL, plainV, Tr.plain_av]) (sharedIn_AH k x hk hz hx hxz) (fun r hp' h => isV'.fz rfl h)
theorem sSharedPaths_AF (k : Tr) (hk : k.bnd 1000000) (hz : sizeT k ≤ 1000001) (p : List Int) (hp : p.length ≤ 1000000) : Fn 13 [k.av, .ro 1 (ints p) [] false] (.ro 1 (rowsR (sharedE k p)) [] false) := by
  have pF := spart_AF k hk p hp
  have hxb := atV_bnd (N := 1000000) p k hk
  have hxz := atT_size p k
  have hfl := freeT_length (atV k p)
  have hll := locT_length p k
  obtain ⟨kd, nm, t, ks⟩ := k
  refine AH.toF (by simp [plainL, plainV, Tr.plain_av]) (post := isV' (.ro 1 (rowsR (sharedE (.mk kd nm t ks) p)) [] false)) ?_ (fun r hp' h => isV'.fz rfl h)
  refine trElim' (atV (.mk kd nm t ks) p) fun zk zn zt zks hzz => ?_
  rw [hzz] at pF hfl
  refine AH.intro Tryz.func13 nm13 rfl rfl rfl fun w0 ok0 own0 => ?_
  refine AWP.seq ?_
  refine AWP.region ?_
  refine AOps.box rfl rfl rfl rfl fun b2 => ?_
  refine Y (ass rfl) rfl ?_
  refine AOps.nil ?_
  refine AWP.seq ?_
  refine AWP.seq ?_
  refine AWP.region ?_
  refine Y (Yields.load_ptr_agg (j := 0) kd25 rfl rfl rfl rfl) rfl ?_
  refine AOps.callro (sExprOk_AF (.mk kd nm t ks) hk (by omega)) rfl rfl rfl ?_
  refine Y (Yields.not rfl) rfl ?_
  refine AOps.nil ?_
  refine AWP.condT rfl (fun h => ?_) (fun h => ?_)
  ·
   skip
   refine AWP.seq ?_
   refine AWP.region ?_
   have h : atB (.mk kd nm t ks) p = false := by rw [atB]; simp at h; rw [h]; rfl
   refine Y (ass rfl) rfl ?_
   refine AOps.nil ?_
   refine AWP.leads (Leads.own0 4 1 rfl) ?_
   refine AWP.leads (Leads.freezeT 1 4 (.inl trivial) rfl (fz_rowsR (L := []) rfl)) ?_
   refine AWP.ret ⟨.inl rfl, ?_⟩
   exact RetH.of (rs := [.tmp 4]) (vs := [_]) rfl ⟨rfl, trivial⟩ KeepR.nil (⟨by rw [sharedE_no h]; rfl, rfl⟩)
  ·
   skip
   have h : okE (.mk kd nm t ks) = true := by simpa using h
   refine AWP.skip ?_
   refine AWP.seq ?_
   refine AWP.region ?_
   refine Y (Yields.load_ptr_agg (j := 0) kd25 rfl rfl rfl rfl) rfl ?_
   refine Y (mv rfl) rfl ?_
   refine AOps.callro (pF) rfl rfl rfl ?_
   refine Y (mv rfl) rfl ?_
   refine Y (Yields.extract rfl rfl) rfl ?_
   refine Y (Yields.extract rfl rfl) rfl ?_
   refine AOps.alloc rfl z25 rfl rfl fun b5 => ?_
   refine AOps.store (j := 0) kd25 rfl rfl rfl rfl rfl rfl ?_
   refine Y (ass rfl) rfl ?_
   refine AOps.nil ?_
   refine AWP.seq ?_
   refine AWP.seq ?_
   refine AWP.prune (tm' := [(0, _), (1, _), (2, _), (4, _), (9, _), (5, _), (6, _)]) ⟨rfl, rfl, rfl, rfl, rfl, rfl, rfl, trivial⟩ ?_
   refine AWP.drawn mixed rfl rfl ?_
   refine D (tm' := [(6, _)]) ⟨rfl, trivial⟩ (DStep.yields (mv rfl)) rfl ?_
   refine D (tm' := [(16, _)]) ⟨rfl, trivial⟩ (DStep.yields (Yields.not rfl)) rfl ?_
   refine D (tm' := [(17, _)]) ⟨rfl, trivial⟩ (DStep.yields (mv rfl)) rfl ?_
   refine DOps.split 2 rfl (fun g => ?_) (fun g => ?_)
   ·
    skip
    have h2 : atB (.mk kd nm t ks) p = false := by rw [atB, h]; simp at g; simp [g]
    refine DOps.off rfl rfl rfl rfl ?_
    refine DOps.off rfl rfl rfl rfl ?_
    refine DOps.off rfl rfl rfl rfl ?_
    refine DOps.off rfl rfl rfl rfl ?_
    refine DOps.off rfl rfl rfl rfl ?_
    refine DOps.off rfl rfl rfl rfl ?_
    refine D (tm' := [(18, _), (24, _)]) ⟨rfl, rfl, trivial⟩ (DStep.yields (Yields.pick_true rfl rfl)) rfl ?_
    refine DOps.nil ?_
    refine AWP.cond rfl (fun _ => ?_) (fun h => absurd h (by decide))
    refine AWP.seq ?_
    refine AWP.region ?_
    refine Y (ass rfl) rfl ?_
    refine AOps.nil ?_
    refine AWP.leads (Leads.own0 4 1 rfl) ?_
    refine AWP.leads (Leads.freezeT 1 4 (.inl trivial) rfl (fz_rowsR (L := []) rfl)) ?_
    refine AWP.ret ⟨.inl rfl, ?_⟩
    exact RetH.of (rs := [.tmp 4]) (vs := [_]) rfl ⟨rfl, trivial⟩ KeepR.nil (⟨by rw [sharedE_no h2]; rfl, rfl⟩)
   ·
    skip
    have h2 : atB (.mk kd nm t ks) p = true := by rw [atB, h]; simpa using g
    have hs : (atT (.mk kd nm t ks) p).isSome = true := by rw [atB, h] at h2; simpa using h2
    obtain ⟨y, hy⟩ := Option.isSome_iff_exists.1 hs
    have hye : atV (.mk kd nm t ks) p = y := by rw [atV, hy]; rfl
    rw [hzz] at hye
    subst hye
    have hzb := hxb _ hy
    have hzs := hxz _ hy
    refine DOps.on rfl rfl ?_
    refine D (tm' := [(5, _)]) ⟨rfl, trivial⟩ (DStep.yields (Yields.load_ptr_agg (j := 0) kd25 rfl rfl rfl rfl)) rfl ?_
    refine DOps.on rfl rfl ?_
    refine D (tm' := [(19, _)]) ⟨rfl, trivial⟩ (DStep.callro (sfreeR_AF (.mk zk zn zt zks) hzb (by omega)) rfl rfl) rfl ?_
    refine DOps.on rfl rfl ?_
    refine D (tm' := [(2, _)]) ⟨rfl, trivial⟩ (DStep.yields (Yields.load_ptr_agg (j := 1) kd25 rfl rfl rfl rfl)) rfl ?_
    refine DOps.on rfl rfl ?_
    refine D (tm' := [(1, _)]) ⟨rfl, trivial⟩ (DStep.yields (mv rfl)) rfl ?_
    refine DOps.on rfl rfl ?_
    refine D (tm' := [(21, _), (22, _)]) ⟨rfl, rfl, trivial⟩ (DStep.callro (saround_AF (.mk kd nm t ks) hk p hp hs) rfl rfl) rfl ?_
    refine DOps.on rfl rfl ?_
    refine D (tm' := [(20, _), (23, _)]) ⟨rfl, rfl, trivial⟩ (DStep.callro (meets_AF (freeT (.mk zk zn zt zks)) (locT (.mk kd nm t ks) p) (by omega) (by omega)) rfl rfl) rfl ?_
    refine D (tm' := [(18, _), (24, _)]) ⟨rfl, rfl, trivial⟩ (DStep.yields (Yields.pick_false rfl rfl)) rfl ?_
    refine DOps.nil ?_
    refine AWP.condT rfl (fun g2 => ?_) (fun g2 => ?_)
    ·
     skip
     refine AWP.seq ?_
     refine AWP.region ?_
     refine Y (ass rfl) rfl ?_
     refine AOps.nil ?_
     refine AWP.leads (Leads.own0 4 1 rfl) ?_
     refine AWP.leads (Leads.freezeT 1 4 (.inl trivial) rfl (fz_rowsR (L := []) rfl)) ?_
     refine AWP.ret ⟨.inl rfl, ?_⟩
     exact RetH.of (rs := [.tmp 4]) (vs := [_]) rfl ⟨rfl, trivial⟩ KeepR.nil (⟨by rw [sharedE, if_pos h2, sharedT, hzz, any_comm, if_pos g2]; rfl, rfl⟩)
    ·
     skip
     refine AWP.skip ?_
     refine AWP.seq ?_
     refine AWP.region ?_
     refine Y (Yields.load_ptr_agg (j := 1) kd25 rfl rfl rfl rfl) rfl ?_
     refine Y (Yields.load_ptr_agg (j := 0) kd25 rfl rfl rfl rfl) rfl ?_
     refine AOps.callro (sharedIn_AF (.mk kd nm t ks) (.mk zk zn zt zks) hk hz hzb (by omega)) rfl rfl rfl ?_
     refine Y (ass rfl) rfl ?_
     refine AOps.nil ?_
     refine AWP.ret ⟨.inl rfl, ?_⟩
     exact RetH.of (rs := [.tmp 4]) (vs := [_]) rfl ⟨rfl, trivial⟩ KeepR.nil (⟨by rw [sharedE, if_pos h2, sharedT, hzz, any_comm, if_neg (by rw [g2]; simp)]; rfl, rfl⟩)
end Go.Proofs.YteieleejhbljfaaGreat
