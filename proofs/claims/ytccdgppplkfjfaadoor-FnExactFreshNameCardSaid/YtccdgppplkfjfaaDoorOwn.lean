/- Trees of one's own: as they come from outside, and the marks that the laws write into them. -/
import Derived.Test.YtccdgppplkfjfaaDoorStrs
namespace Go.Proofs.YtccdgppplkfjfaaDoor
open Go Go.Ax Go.Proofs
set_option linter.unusedVariables false
set_option linter.unusedSimpArgs false
set_option maxRecDepth 20000

theorem View.wk {a p q : AV} (h : View a p) (h' : Wk p q) : View a q := ⟨h'.1.trans h.1, fun w ok ok' cs F h1 h2 h3 => h'.2 w ok' cs [] (h.2 w ok ok' cs F h1 h2 h3)⟩
theorem viewL_wk : ∀ {us ps qs : List AV}, ViewL us ps → WkL ps qs → ViewL us qs
  | [], [], [], _, _ => trivial
  | a :: us, p :: ps, q :: qs, h, h' => ⟨View.wk h.1 h'.1, viewL_wk h.2 h'.2⟩
  | [], _ :: _, _, h, _ => h.elim
  | _ :: _, [], _, h, _ => h.elim
  | [], [], _ :: _, _, h => h.elim
  | _ :: _, _ :: _, [], _, h => h.elim
namespace Tr
mutual
def avX (sp : Nat → List AV) : Tr → AV
  | .mk k n t ks => .agg [.val (.int .i64 k), .val (.int .i64 n), .val (.string t), .own 4 (avXs sp ks) (sp ks.length)]
def avXs (sp : Nat → List AV) : List Tr → List AV
  | [] => []
  | k :: ks => avX sp k :: avXs sp ks
end
theorem avXs_length (sp : Nat → List AV) : ∀ l : List Tr, (avXs sp l).length = l.length
  | [] => rfl
  | k :: ks => by simp [avXs, avXs_length sp ks]
theorem avXs_get (sp : Nat → List AV) : ∀ (l : List Tr) (i : Nat), (avXs sp l)[i]? = (l[i]?).map (avX sp)
  | [], i => by simp [avXs]
  | k :: ks, 0 => by simp [avXs]
  | k :: ks, i + 1 => by simp [avXs, avXs_get sp ks i]
theorem avXs_at {sp : Nat → List AV} {l : List Tr} {i : Nat} {k : Tr} (h : l[i]? = some k) : (avXs sp l)[i]? = some (k.avX sp) := by rw [avXs_get, h]; rfl
theorem avXs_append (sp : Nat → List AV) : ∀ (l m : List Tr), avXs sp (l ++ m) = avXs sp l ++ avXs sp m
  | [], m => rfl
  | k :: l, m => by simp [avXs, avXs_append sp l m]
theorem avX_agg (sp : Nat → List AV) (k : Tr) : isAggV (k.avX sp) = true := by cases k; rfl
theorem avXs_take_succ (sp : Nat → List AV) {l : List Tr} {i : Nat} {k : Tr} (h : l[i]? = some k) : avXs sp (l.take (i + 1)) = avXs sp (l.take i) ++ [k.avX sp] := by
  rw [List.take_add_one, h, avXs_append]; rfl
mutual
theorem view_avR (b : Bool) : ∀ k : Tr, View (k.avX (spare b)) (k.avR b)
  | .mk k n t ks => View.agg ⟨View.refl rfl, View.refl rfl, View.refl rfl, View.own (view_avRs b ks) (viewL_refl (spare_plain b _)), trivial⟩
theorem view_avRs (b : Bool) : ∀ l : List Tr, ViewL (avXs (spare b) l) (avRs b l)
  | [] => trivial
  | k :: l => ⟨view_avR b k, view_avRs b l⟩
end
abbrev nosp : Nat → List AV := fun _ => []
mutual
theorem view_av : ∀ k : Tr, View (k.avX nosp) k.av
  | .mk k n t ks => View.agg ⟨View.refl rfl, View.refl rfl, View.refl rfl, View.own (view_avs ks) (trivial : ViewL [] []), trivial⟩
theorem view_avs : ∀ l : List Tr, ViewL (avXs nosp l) (avs l)
  | [] => trivial
  | k :: l => ⟨view_av k, view_avs l⟩
end
theorem view_avs' (b : Bool) (l : List Tr) : ViewL (avXs (spare b) l) (avs l) := viewL_wk (view_avRs b l) (wk_avRs b l)
mutual
theorem free_avX : ∀ k : Tr, Free (k.avX nosp)
  | .mk k n t ks => Free.agg ⟨Free.val, Free.val, Free.val, Free.own (free_avXs ks) trivial, trivial⟩
theorem free_avXs : ∀ l : List Tr, FreeL (avXs nosp l)
  | [] => trivial
  | k :: l => ⟨free_avX k, free_avXs l⟩
end
end Tr
def ownXs (sp : Nat → List AV) (ks : List Tr) : AV → Hp → Prop := fun r hp' => ∃ B : Option Nat, r = .loc B 0 ks.length (ks.length + (sp ks.length).length) 4 ∧ hp' = [(B, ⟨4, Tr.avXs sp ks ++ sp ks.length⟩)]
abbrev openX (sp : Nat → List AV) (B : Option Nat) : Tr → AV
  | .mk k n t ks => .agg [.val (.int .i64 k), .val (.int .i64 n), .val (.string t), .loc B 0 ks.length (ks.length + (sp ks.length).length) 4]
def ownX (sp : Nat → List AV) (k : Tr) : AV → Hp → Prop := fun r hp' => ∃ B : Option Nat, r = openX sp B k ∧ hp' = [(B, ⟨4, Tr.avXs sp k.kids ++ sp k.kids.length⟩)]
theorem sealX (sp : Nat → List AV) (B : Option Nat) (k n : Int) (t : ByteArray) (ks : List Tr) : SealTo B ⟨4, Tr.avXs sp ks ++ sp ks.length⟩ (openX sp B (.mk k n t ks)) (Tr.avX sp (.mk k n t ks)) := by
  have hl := Tr.avXs_length sp ks
  have h := SealTo.loc (B := B) (m := 4) (len := ks.length) (k := ks.length + (sp ks.length).length) (ys := Tr.avXs sp ks ++ sp ks.length) (by simp [hl]) (by simp [hl])
  rw [List.take_left' hl, List.drop_left' hl] at h
  exact SealTo.agg (cs := [.val (.int .i64 k), .val (.int .i64 n), .val (.string t), .loc B 0 ks.length (ks.length + (sp ks.length).length) 4]) 3 rfl h
theorem openX_to (sp : Nat → List AV) (k n : Int) (t : ByteArray) (ks : List Tr) : OpenTo (fun B : Option Nat => B) ⟨4, Tr.avXs sp ks ++ sp ks.length⟩ (Tr.avX sp (.mk k n t ks)) (fun B => openX sp B (.mk k n t ks)) := by
  have h := OpenTo.agg (cs := [.val (.int .i64 k), .val (.int .i64 n), .val (.string t), .own 4 (Tr.avXs sp ks) (sp ks.length)]) 3 rfl (OpenTo.own (m := 4) (ys := Tr.avXs sp ks) (zs := sp ks.length))
  rw [Tr.avXs_length] at h
  exact h
theorem set_set_step {A : List AV} {z u v : AV} {m i : Nat} (hA : A.length = i) (hm : 0 < m) : ((A ++ List.replicate m z).set (0 + i) u).set i v = (A ++ [v]) ++ List.replicate (m - 1) z := by
  rw [Nat.zero_add, List.set_set]
  have := set_step (z := z) (v := v) hA hm
  rwa [Nat.zero_add] at this
theorem get_set_step {A : List AV} {z u : AV} {m i : Nat} (hA : A.length = i) (hm : 0 < m) : ((A ++ List.replicate m z).set (0 + i) u)[i]? = some u := by
  rw [Nat.zero_add, List.getElem?_set_self]
  simp; omega

abbrev openT (B : Option Nat) : Tr → AV
  | .mk k n t ks => .agg [.val (.int .i64 k), .val (.int .i64 n), .val (.string t), .loc B 0 ks.length ks.length 4]
def ownT (k : Tr) : AV → Hp → Prop := fun r hp' => ∃ B : Option Nat, r = openT B k ∧ hp' = [(B, ⟨4, Tr.avXs Tr.nosp k.kids⟩)]
theorem sealT (B : Option Nat) (k n : Int) (t : ByteArray) (ks : List Tr) : SealTo B ⟨4, Tr.avXs Tr.nosp ks⟩ (openT B (.mk k n t ks)) (Tr.avX Tr.nosp (.mk k n t ks)) := by
  have := sealX Tr.nosp B k n t ks
  rwa [List.append_nil] at this
theorem openT_to (k n : Int) (t : ByteArray) (ks : List Tr) : OpenTo (fun B : Option Nat => B) ⟨4, Tr.avXs Tr.nosp ks⟩ (Tr.avX Tr.nosp (.mk k n t ks)) (fun B => openT B (.mk k n t ks)) := by
  have := openX_to Tr.nosp k n t ks
  rwa [List.append_nil] at this
theorem ownT.close {k : Tr} {r : AV} {hp' : Hp} (h : ownT k r hp') : CloseTo hp' r (k.avX Tr.nosp) := by
  obtain ⟨B, rfl, rfl⟩ := h
  cases k
  exact CloseTo.one (sealT _ _ _ _ _)
theorem Tr.avX_cell (sp : Nat → List AV) (k : Tr) : cellV (k.avX sp) = true := by cases k; rfl
theorem Tr.avX_width (sp : Nat → List AV) (k : Tr) : width (k.avX sp) = 4 := by cases k; rfl
theorem openT_plain (B : Option Nat) (k : Tr) : plainL [openT B k] = true := by cases k; rfl
theorem bor_avT {hp : Hp} {B : Option Nat} {j : Nat} (k : Tr) (hj : hp[j]? = some (B, ⟨4, Tr.avXs Tr.nosp k.kids⟩)) : Bor hp (openT B k) k.av := by
  obtain ⟨kd, nm, t, ks⟩ := k
  refine Bor.agg ⟨Bor.refl rfl, Bor.refl rfl, Bor.refl rfl, Bor.loc hj (by simp [Tr.avXs_length, Tr.kids]) ?_, trivial⟩
  have : (Tr.avXs Tr.nosp ks).take ks.length = Tr.avXs Tr.nosp ks := List.take_of_length_le (by simp [Tr.avXs_length])
  simp only [Tr.kids]
  rw [this]
  exact Tr.view_avs ks
theorem bor_avM {hp : Hp} {B : Option Nat} {j : Nat} (kd nm : Int) (t : ByteArray) (ks ks' : List Tr) (hl : ks'.length = ks.length) (hj : hp[j]? = some (B, ⟨4, Tr.avXs Tr.nosp ks'⟩)) : Bor hp (openT B (.mk kd nm t ks)) (Tr.av (.mk kd nm t ks')) := by
  have h := bor_avT (Tr.mk kd nm t ks') hj
  simp only [openT] at h ⊢
  rwa [hl] at h
theorem opn_avT {k n : Int} {t : ByteArray} {ks : List Tr} {a' : AV} {rows : List (Option Nat × Row)} (h : Opn (Tr.avX Tr.nosp (.mk k n t ks)) a' rows) : ∃ B : Option Nat, a' = openT B (.mk k n t ks) ∧ rows = [(B, ⟨4, Tr.avXs Tr.nosp ks⟩)] := by
  cases h with
  | plain _ hp => simp [Tr.avX, plainV, plainL] at hp
  | agg _ _ _ h =>
    cases h with
    | cons _ _ _ _ _ _ h1 h =>
      cases h1
      cases h with
      | cons _ _ _ _ _ _ h2 h =>
        cases h2
        cases h with
        | cons _ _ _ _ _ _ h3 h =>
          cases h3
          cases h with
          | cons _ _ _ _ _ _ h4 h =>
            cases h
            cases h4 with
            | plain _ hp => simp [plainV] at hp
            | own _ _ _ B => exact ⟨B, by simp [openT, Tr.avXs_length], by simp⟩
theorem ownT.fz {k : Tr} {r : AV} {hp' : Hp} (h : ownT k r hp') : Fz hp' r k.av := by
  obtain ⟨B, rfl, rfl⟩ := h
  exact (bor_avT (j := 0) k rfl).fz
theorem ownT.free {k : Tr} {r : AV} {hp' : Hp} (h : ownT k r hp') : Free r ∧ ∀ B row, (B, row) ∈ hp' → FreeL row.xs := by
  obtain ⟨B, rfl, rfl⟩ := h
  refine ⟨?_, fun B' row hm => ?_⟩
  · obtain ⟨kd, nm, t, ks⟩ := k
    refine Free.agg ⟨Free.val, Free.val, Free.val, fun w ok ok' cs F hr => ?_, trivial⟩
    cases B <;> simpa only [Rep] using hr
  · simp at hm; obtain ⟨rfl, rfl⟩ := hm; exact Tr.free_avXs _
theorem app_one {A : List AV} {e e' : AV} {i : Nat} (hA : A.length = i) : (A ++ [e]).set i e' = A ++ [e'] := by
  subst hA; simp [List.set_append]
theorem get_one {A : List AV} {e : AV} {i : Nat} (hA : A.length = i) : (A ++ [e])[i]? = some e := by
  subst hA; simp
theorem set_mid {A Z : List AV} {e e' : AV} {i : Nat} (hA : A.length = i) : (A ++ e :: Z).set i e' = A ++ e' :: Z := by
  subst hA; simp [List.set_append]
theorem set_mid0 {A Z : List AV} {e e' : AV} {i : Nat} (hA : A.length = i) : (A ++ e :: Z).set (0 + i) e' = A ++ e' :: Z := by
  rw [Nat.zero_add]; exact set_mid hA
theorem get_mid {A Z : List AV} {e : AV} {i : Nat} (hA : A.length = i) : (A ++ e :: Z)[i]? = some e := by
  subst hA; simp
theorem get_mid0 {A Z : List AV} {e : AV} {i : Nat} (hA : A.length = i) : (A ++ e :: Z)[0 + i]? = some e := by
  rw [Nat.zero_add]; exact get_mid hA
theorem sealX' (sp : Nat → List AV) (B : Option Nat) (k n : Int) (t : ByteArray) (ks ks' : List Tr) (hl : ks'.length = ks.length) : SealTo B ⟨4, Tr.avXs sp ks' ++ sp ks.length⟩ (openX sp B (.mk k n t ks)) (Tr.avX sp (.mk k n t ks')) := by
  have h := sealX sp B k n t ks'
  simp only [openX] at h ⊢
  rwa [hl] at h

theorem bor_av (sp : Nat → List AV) {hp : Hp} {B : Option Nat} {j : Nat} (kd nm : Int) (t : ByteArray) (ks : List Tr) (hv : ViewL (Tr.avXs sp ks) (Tr.avs ks)) (hj : hp[j]? = some (B, ⟨4, Tr.avXs sp ks ++ sp ks.length⟩)) : Bor hp (openX sp B (.mk kd nm t ks)) (Tr.av (.mk kd nm t ks)) :=
  Bor.agg ⟨Bor.refl rfl, Bor.refl rfl, Bor.refl rfl, Bor.loc hj (by simp [Tr.avXs_length]) (by rw [List.take_left' (Tr.avXs_length sp ks)]; exact hv), trivial⟩
theorem Bor.locR {hp : Hp} {B : Option Nat} {j len k n : Nat} {xs ys zs : List AV} (hj : hp[j]? = some (B, ⟨n, xs⟩)) (h1 : len ≤ xs.length) (h2 : xs.length ≤ k) (hv : ViewL (xs.take len) ys) (hz : ViewL (xs.drop len) zs) : Bor hp (.loc B 0 len k n) (.ro n ys zs false) := by
  refine ⟨rfl, fun w ok F cs Fe h hF hr => ?_⟩
  obtain ⟨Fp, Fj, Fq, rfl, hrow, _⟩ := h.at hj
  have hFe : Fe = [] := plain_foot _ _ _ hr rfl
  subst hFe
  obtain ⟨G, q1, q2⟩ := (SealTo.loc (B := B) (m := n) h1 h2).2 w ok cs [] Fj hr hrow
  have hG : ∀ b ∈ G, b ∈ Fp ++ (Fj ++ Fq) := fun b hb => by
    have := q1.mem_iff.2 hb
    simp at this
    simp [this]
  exact (View.own hv hz).2 w ok _ cs G (fun b hb => .inl hb) (fun b hb => .inr (hG b hb)) q2
theorem bor_avR {hp : Hp} {B : Option Nat} {j : Nat} (b : Bool) (kd nm : Int) (t : ByteArray) (ks : List Tr) (hj : hp[j]? = some (B, ⟨4, Tr.avXs (Tr.spare b) ks ++ Tr.spare b ks.length⟩)) : Bor hp (openX (Tr.spare b) B (.mk kd nm t ks)) (Tr.avR b (.mk kd nm t ks)) :=
  Bor.agg ⟨Bor.refl rfl, Bor.refl rfl, Bor.refl rfl, Bor.locR hj (by simp [Tr.avXs_length]) (by simp [Tr.avXs_length]) (by rw [List.take_left' (Tr.avXs_length _ ks)]; exact Tr.view_avRs b ks) (by rw [List.drop_left' (Tr.avXs_length _ ks)]; exact viewL_refl (Tr.spare_plain b _)), trivial⟩

mutual
def markT : Tr → Nat → Tr × Nat
  | .mk _ _ _ ks, m => (.mk m ((m + 1 : Nat) : Int) (markTxt (m + 2)) (markL ks (m + 3)).1, (markL ks (m + 3)).2)
def markL : List Tr → Nat → List Tr × Nat
  | [], m => ([], m)
  | k :: ks, m => ((markT k m).1 :: (markL ks (markT k m).2).1, (markL ks (markT k m).2).2)
end
theorem markL_length : ∀ (l : List Tr) (m : Nat), (markL l m).1.length = l.length
  | [], m => by rw [markL]
  | k :: l, m => by rw [markL]; simp [markL_length l]
mutual
theorem markT_le : ∀ (k : Tr) (m : Nat), m ≤ (markT k m).2 ∧ ((markT k m).2 : Int) ≤ m + 3 * sizeT k
  | .mk _ _ _ ks, m => by
    rw [markT, sizeT]
    have := markL_le ks (m + 3)
    simp only
    omega
theorem markL_le : ∀ (l : List Tr) (m : Nat), m ≤ (markL l m).2 ∧ ((markL l m).2 : Int) ≤ m + 3 * sizeTs l
  | [], m => by rw [markL, sizeTs]; simp
  | k :: l, m => by
    rw [markL, sizeTs]
    have h1 := markT_le k m
    have h2 := markL_le l (markT k m).2
    simp only
    omega
end
def markP (sp : Nat → List AV) (B : Option Nat) (ks : List Tr) (m : Nat) : AV → Hp → Prop := fun r hp' => r = int (((markL ks m).2 : Nat) : Int) ∧ hp' = [(B, ⟨4, Tr.avXs sp (markL ks m).1 ++ sp ks.length⟩)]
theorem row_split (sp : Nat → List AV) {L l : List Tr} {i : Nat} {k : Tr} {z : List AV} (hd : l.drop i = k :: l.drop (i + 1)) : Tr.avXs sp (L.take i ++ l.drop i) ++ z = Tr.avXs sp (L.take i) ++ Tr.avX sp k :: (Tr.avXs sp (l.drop (i + 1)) ++ z) := by
  rw [hd, Tr.avXs_append, Tr.avXs]; simp
theorem row_join (sp : Nat → List AV) {L l : List Tr} {i : Nat} {k : Tr} {z : List AV} (hk : L[i]? = some k) : Tr.avXs sp (L.take i) ++ Tr.avX sp k :: (Tr.avXs sp (l.drop (i + 1)) ++ z) = Tr.avXs sp (L.take (i + 1) ++ l.drop (i + 1)) ++ z := by
  rw [List.take_add_one, hk, Tr.avXs_append, Tr.avXs_append]; simp [Tr.avXs]

theorem toS_nilXValue : FnH 31 [] [.ro 4 [] [] false, bool true] (ownXs (Tr.spare true) []) := by
  refine AH.intro Tryd.func31 nm31 rfl rfl rfl fun w0 ok0 own0 => ?_
  refine AWP.seq ?_
  refine AWP.region ?_
  refine Y (ass rfl) rfl ?_
  refine AOps.nil ?_
  refine AWP.seq ?_
  refine AWP.seq ?_
  refine AWP.region ?_
  refine Y (mv rfl) rfl ?_
  refine Y (mv rfl) rfl ?_
  refine AOps.on rfl rfl ?_
  refine Y (mv rfl) rfl ?_
  refine AOps.on rfl rfl ?_
  refine Y (Yields.len_ro sl33 rfl) rfl ?_
  refine AOps.on rfl rfl ?_
  refine Y (bn rfl rfl BinR.eql rfl) rfl ?_
  refine Y (Yields.pick_true rfl rfl) rfl ?_
  refine AOps.nil ?_
  refine AWP.condT rfl (fun h => ?_) (fun h => ?_)
  ·
   replace h := eq_of_beq h
   refine AWP.seq ?_
   refine AWP.region ?_
   refine Y (ass rfl) rfl ?_
   refine AOps.nil ?_
   refine AWP.leads (Leads.own0 4 4 rfl) ?_
   refine AWP.ret ⟨.inl rfl, ?_⟩
   exact RetH.of (rs := [.tmp 4]) (vs := [_]) rfl ⟨rfl, trivial⟩ (KeepR.cons 0 rfl KeepR.nil) (⟨none, rfl, rfl⟩)
  ·
   replace h := ne_of_beq_false h
   simp at h
theorem toS_XValue (b : Bool) (ks : List Tr) (hv : ∀ k ∈ ks, k.bnd 1000000 → FnH 13 [] [k.av, bool b] (ownX (Tr.spare b) k)) (hk : Tr.bnds 1000000 ks) (hl : ks.length ≤ 1000000) (hb : b = true → ks.length ≠ 0) :
    FnH 31 [] [.ro 4 (Tr.avs ks) [] false, bool b] (ownXs (Tr.spare b) ks) := by
  have hlen := Tr.avs_length ks
  have hlenR := Tr.avXs_length (Tr.spare b) ks
  have hroom : Tr.room (Tr.avs ks).length = Tr.room ks.length := by rw [hlen]
  have hrle := Tr.room_le ks.length
  refine AH.intro Tryd.func31 nm31 rfl rfl rfl fun w0 ok0 own0 => ?_
  refine AWP.seq ?_
  refine AWP.region ?_
  refine Y (ass rfl) rfl ?_
  refine AOps.nil ?_
  refine AWP.midT [(0, .ro 4 (Tr.avs ks) [] false), (1, bool b)] [] ?_ ?_
  · skip
    refine AWP.seq ?_
    refine AWP.region ?_
    refine Y (mv rfl) rfl ?_
    refine Y (mv rfl) rfl ?_
    refine AOps.split 9 rfl (fun h => ?_) (fun h => ?_)
    · skip
      refine AOps.on rfl rfl ?_
      refine Y (mv rfl) rfl ?_
      refine AOps.on rfl rfl ?_
      refine Y (Yields.len_ro sl33 rfl) rfl ?_
      refine AOps.on rfl rfl ?_
      refine Y (bn rfl rfl BinR.eql rfl) rfl ?_
      refine Y (Yields.pick_true rfl rfl) rfl ?_
      refine AOps.nil ?_
      refine AWP.condT rfl (fun h2 => ?_) (fun h2 => ?_)
      · replace h2 := eq_of_beq h2
        exact absurd h2 (by have := hb h; omega)
      · replace h2 := ne_of_beq_false h2
        refine AWP.skip ?_
        exact Leads.rows 0 ⟨rfl, rfl, trivial⟩
    · skip
      refine AOps.off' rfl rfl rfl rfl ?_
      refine AOps.off' rfl rfl rfl rfl ?_
      refine AOps.off' rfl rfl rfl rfl ?_
      refine Y (Yields.pick_false rfl rfl) rfl ?_
      refine AOps.nil ?_
      refine AWP.cond rfl (fun h => absurd h (by decide)) (fun _ => ?_)
      refine AWP.skip ?_
      exact Leads.rows 0 ⟨rfl, rfl, trivial⟩
  · skip
    refine AWP.seq ?_
    refine AWP.region ?_
    refine Y (mv rfl) rfl ?_
    refine Y (Yields.len_ro sl33 rfl) rfl ?_
    refine Y (mv rfl) rfl ?_
    refine Y (Yields.len_ro sl33 rfl) rfl ?_
    refine AOps.callro (roomBehind_AF (Tr.avs ks).length) rfl rfl rfl ?_
    refine Y (bn rfl rfl (BinR.addI (by omega) (by omega)) rfl) rfl ?_
    refine AOps.makeSlice (N := ks.length + Tr.room ks.length) sl38 z40 rfl rfl rfl rfl rfl rfl (by omega) (by omega) (by omega) (by omega) fun b1 => ?_
    refine Y (ass rfl) rfl ?_
    refine AOps.nil ?_
    refine AWP.seq ?_
    refine AWP.seq ?_
    refine AWP.region ?_
    refine Y (ass rfl) rfl ?_
    refine AOps.nil ?_
    refine AWP.block ?_
    refine AWP.loopV (α := Nat × List AV) (fun pp : Nat × List AV => match pp with | (i, xs) => ⟨[(0, .ro 4 (Tr.avs ks) [] false), (1, bool b), (5, .loc (some b1) 0 (ks.length + Tr.room ks.length) (ks.length + Tr.room ks.length) 4), (6, int i)], [(some b1, ⟨4, xs⟩)]⟩) (fun pp : Nat × List AV => match pp with | (i, xs) => i ≤ ks.length ∧ xs = Tr.avXs (Tr.spare b) (ks.take i) ++ List.replicate (ks.length + Tr.room ks.length - i) zero4) (fun pp : Nat × List AV => match pp with | (i, xs) => ks.length - i) ((0, List.replicate (ks.length + Tr.room ks.length) zero4)) ?_ ?_ ?_
    · exact Leads.rows 0 ⟨rfl, rfl, rfl, rfl, trivial⟩
    · show 0 ≤ ks.length ∧ (List.replicate (ks.length + Tr.room ks.length) zero4) = Tr.avXs (Tr.spare b) (ks.take 0) ++ List.replicate (ks.length + Tr.room ks.length - 0) zero4
      exact ⟨Nat.zero_le _, by simp [Tr.avXs]⟩
    · rintro ⟨i, xs⟩ hinv
      replace hinv : i ≤ ks.length ∧ xs = Tr.avXs (Tr.spare b) (ks.take i) ++ List.replicate (ks.length + Tr.room ks.length - i) zero4 := hinv
      show AWP _ _ _ _ ⟨[(0, .ro 4 (Tr.avs ks) [] false), (1, bool b), (5, .loc (some b1) 0 (ks.length + Tr.room ks.length) (ks.length + Tr.room ks.length) 4), (6, int i)], [(some b1, ⟨4, xs⟩)]⟩
      refine AWP.seq ?_
      refine AWP.seq ?_
      refine AWP.region ?_
      obtain ⟨hi, rfl⟩ := hinv
      refine Y (mv rfl) rfl ?_
      refine Y (mv rfl) rfl ?_
      refine Y (Yields.len_ro sl33 rfl) rfl ?_
      refine Y (bn rfl rfl BinR.lss rfl) rfl ?_
      refine AOps.nil ?_
      refine AWP.condT rfl (fun g => ?_) (fun g => ?_)
      · replace g := of_decide_eq_true g
        have hlt : i < ks.length := by omega
        obtain ⟨k, hk1, hd⟩ := drop_at hlt
        have hA : (Tr.avXs (Tr.spare b) (ks.take i)).length = i := by rw [Tr.avXs_length, List.length_take]; omega
        obtain ⟨ckd, cnm, ct, cks⟩ := k
        refine AWP.skip ?_
        refine AWP.seq ?_
        refine AWP.block ?_
        refine AWP.region ?_
        refine Y (mv rfl) rfl ?_
        refine Y (mv rfl) rfl ?_
        refine Y (mv rfl) rfl ?_
        refine Y (mv rfl) rfl ?_
        refine Y (Yields.idx_roN sl33 rfl rfl rfl rfl (by omega)) rfl ?_
        refine Y (Yields.load_rop_aggV kd35 rfl (Tr.avs_at hk1) rfl) rfl ?_
        refine Y (mv rfl) rfl ?_
        refine AOps.callH (.inl trivial) (hv _ (List.mem_of_getElem? hk1) (Tr.bnds_get hk hk1)) rfl rfl rfl (WkL.refl _) ?_
        rintro _ _ ⟨Bk, rfl, rfl⟩
        refine Y (Yields.idx_locN sl38 rfl rfl rfl (by omega)) rfl ?_
        refine AOps.store (j := 1) kd40 rfl rfl (get_step hA (by omega)) rfl rfl rfl ?_
        refine AOps.nil ?_
        refine AWP.region ?_
        refine AOps.leads (Leads.seal 0 i rfl (get_set_step hA (by omega)) (sealX _ _ _ _ _ _)) ?_
        refine Y (mv rfl) rfl ?_
        refine Y (bn rfl rfl (BinR.addI (by omega) (by omega)) rfl) rfl ?_
        refine Y (ass rfl) rfl ?_
        refine AOps.nil ?_
        refine ⟨(i + 1, ((Tr.avXs (Tr.spare b) (ks.take i) ++ List.replicate (ks.length + Tr.room ks.length - i) zero4).set (0 + i) (openX (Tr.spare b) Bk (.mk ckd cnm ct cks))).set i (Tr.avX (Tr.spare b) (.mk ckd cnm ct cks))), ?_, ?_, ?_⟩
        · show ks.length - (i + 1) < ks.length - i
          omega
        · show (i + 1) ≤ ks.length ∧ (((Tr.avXs (Tr.spare b) (ks.take i) ++ List.replicate (ks.length + Tr.room ks.length - i) zero4).set (0 + i) (openX (Tr.spare b) Bk (.mk ckd cnm ct cks))).set i (Tr.avX (Tr.spare b) (.mk ckd cnm ct cks))) = Tr.avXs (Tr.spare b) (ks.take (i + 1)) ++ List.replicate (ks.length + Tr.room ks.length - (i + 1)) zero4
          refine ⟨by omega, ?_⟩
          rw [set_set_step hA (by omega), ← Tr.avXs_take_succ (Tr.spare b) hk1, show ks.length + Tr.room ks.length - i - 1 = ks.length + Tr.room ks.length - (i + 1) by omega]
        · exact Leads.rows 0 ⟨rfl, rfl, rfl, rfl, trivial⟩
      · replace g := of_decide_eq_false g
        have hi' : i = ks.length := by omega
        subst hi'
        rw [List.take_length]
        refine AWP.exit ?_
        refine AWP.seq ?_
        refine AWP.seq ?_
        refine AWP.region ?_
        refine Y (mv rfl) rfl ?_
        refine Y (Yields.len_ro sl33 rfl) rfl ?_
        refine Y (ass rfl) rfl ?_
        refine AOps.nil ?_
        refine AWP.block ?_
        refine AWP.loopV (α := Nat × List AV) (fun pp : Nat × List AV => match pp with | (i, xs) => ⟨[(0, .ro 4 (Tr.avs ks) [] false), (1, bool b), (5, .loc (some b1) 0 (ks.length + Tr.room ks.length) (ks.length + Tr.room ks.length) 4), (7, int i)], [(some b1, ⟨4, xs⟩)]⟩) (fun pp : Nat × List AV => match pp with | (i, xs) => i ≤ ks.length + Tr.room ks.length ∧ ks.length ≤ i ∧ xs = Tr.avXs (Tr.spare b) ks ++ List.replicate (i - ks.length) Tr.fillT.av ++ List.replicate (ks.length + Tr.room ks.length - i) zero4) (fun pp : Nat × List AV => match pp with | (i, xs) => ks.length + Tr.room ks.length - i) ((ks.length, Tr.avXs (Tr.spare b) ks ++ List.replicate (ks.length + Tr.room ks.length - ks.length) zero4)) ?_ ?_ ?_
        · exact Leads.rows 0 ⟨rfl, rfl, rfl, (by show some (AV.val (Value.int .i64 _)) = some (AV.val (Value.int .i64 _)); rw [hlen]), trivial⟩
        · show ks.length ≤ ks.length + Tr.room ks.length ∧ ks.length ≤ ks.length ∧ (Tr.avXs (Tr.spare b) ks ++ List.replicate (ks.length + Tr.room ks.length - ks.length) zero4) = Tr.avXs (Tr.spare b) ks ++ List.replicate (ks.length - ks.length) Tr.fillT.av ++ List.replicate (ks.length + Tr.room ks.length - ks.length) zero4
          exact ⟨by omega, Nat.le_refl _, by simp⟩
        · rintro ⟨i, xs⟩ hinv
          replace hinv : i ≤ ks.length + Tr.room ks.length ∧ ks.length ≤ i ∧ xs = Tr.avXs (Tr.spare b) ks ++ List.replicate (i - ks.length) Tr.fillT.av ++ List.replicate (ks.length + Tr.room ks.length - i) zero4 := hinv
          show AWP _ _ _ _ ⟨[(0, .ro 4 (Tr.avs ks) [] false), (1, bool b), (5, .loc (some b1) 0 (ks.length + Tr.room ks.length) (ks.length + Tr.room ks.length) 4), (7, int i)], [(some b1, ⟨4, xs⟩)]⟩
          refine AWP.seq ?_
          refine AWP.seq ?_
          refine AWP.region ?_
          obtain ⟨hi, hi1, rfl⟩ := hinv
          refine Y (mv rfl) rfl ?_
          refine Y (mv rfl) rfl ?_
          refine Y (Yields.len_loc sl38 rfl) rfl ?_
          refine Y (bn rfl rfl BinR.lss rfl) rfl ?_
          refine AOps.nil ?_
          refine AWP.condT rfl (fun g2 => ?_) (fun g2 => ?_)
          · replace g2 := of_decide_eq_true g2
            have hA : (Tr.avXs (Tr.spare b) ks ++ List.replicate (i - ks.length) Tr.fillT.av).length = i := by rw [List.length_append, hlenR, List.length_replicate]; omega
            refine AWP.skip ?_
            refine AWP.seq ?_
            refine AWP.block ?_
            refine AWP.region ?_
            refine Y (mv rfl) rfl ?_
            refine Y (mv rfl) rfl ?_
            refine AOps.callro (filler_AFValue) rfl rfl rfl ?_
            refine Y (Yields.idx_locN sl38 rfl rfl rfl (by omega)) rfl ?_
            refine AOps.store (j := 0) kd40 rfl rfl (get_step hA (by omega)) rfl rfl rfl ?_
            refine AOps.nil ?_
            refine AWP.region ?_
            refine Y (mv rfl) rfl ?_
            refine Y (bn rfl rfl (BinR.addI (by omega) (by omega)) rfl) rfl ?_
            refine Y (ass rfl) rfl ?_
            refine AOps.nil ?_
            refine ⟨(i + 1, (Tr.avXs (Tr.spare b) ks ++ List.replicate (i - ks.length) Tr.fillT.av ++ List.replicate (ks.length + Tr.room ks.length - i) zero4).set (0 + i) Tr.fillT.av), ?_, ?_, ?_⟩
            · show ks.length + Tr.room ks.length - (i + 1) < ks.length + Tr.room ks.length - i
              omega
            · show (i + 1) ≤ ks.length + Tr.room ks.length ∧ ks.length ≤ (i + 1) ∧ ((Tr.avXs (Tr.spare b) ks ++ List.replicate (i - ks.length) Tr.fillT.av ++ List.replicate (ks.length + Tr.room ks.length - i) zero4).set (0 + i) Tr.fillT.av) = Tr.avXs (Tr.spare b) ks ++ List.replicate ((i + 1) - ks.length) Tr.fillT.av ++ List.replicate (ks.length + Tr.room ks.length - (i + 1)) zero4
              refine ⟨by omega, by omega, ?_⟩
              rw [set_step hA (by omega), List.append_assoc (Tr.avXs (Tr.spare b) ks), ← List.replicate_succ', show i - ks.length + 1 = i + 1 - ks.length by omega, show ks.length + Tr.room ks.length - i - 1 = ks.length + Tr.room ks.length - (i + 1) by omega]
            · exact Leads.rows 0 ⟨rfl, rfl, rfl, rfl, trivial⟩
          · replace g2 := of_decide_eq_false g2
            have hi' : i = ks.length + Tr.room ks.length := by omega
            subst hi'
            have hsp : Tr.spare b ks.length = List.replicate (Tr.room ks.length) Tr.fillT.av := by
               unfold Tr.spare
               cases b with
               | false => rfl
               | true => rw [if_neg (by simpa using hb rfl)]
            refine AWP.exit ?_
            refine AWP.seq ?_
            refine AWP.region ?_
            refine Y (mv rfl) rfl ?_
            refine Y (mv rfl) rfl ?_
            refine Y (Yields.len_ro sl33 rfl) rfl ?_
            refine Y (Yields.slice_loc sl38 rfl (u := ks.length) ⟨.i64, by show some (AV.val (Value.int .i64 _)) = _; rw [hlen]⟩ (by omega)) rfl ?_
            refine Y (ass rfl) rfl ?_
            refine AOps.nil ?_
            refine AWP.ret ⟨.inl rfl, ?_⟩
            exact RetH.of (rs := [.tmp 4]) (vs := [_]) rfl ⟨rfl, trivial⟩ (KeepR.cons 0 rfl KeepR.nil) (⟨some b1, by rw [hsp, List.length_replicate]; rfl, by rw [hsp, Nat.sub_self, Nat.add_sub_cancel_left, List.replicate_zero, List.append_nil]⟩)
theorem to_XValue (b : Bool) (k : Tr) : k.bnd 1000000 → FnH 13 [] [k.av, bool b] (ownX (Tr.spare b) k) := by
  induction k using Tr.ind
  rename_i kd nm t ks ih
  intro hk
  simp only [Tr.bnd] at hk
  obtain ⟨hk1, hk2, hk3⟩ := hk
  have hS : FnH 31 [] [.ro 4 (Tr.avs ks) [] false, bool b] (ownXs (Tr.spare b) ks) := by
    by_cases hb : b = true ∧ ks.length = 0
    · obtain ⟨rfl, h0⟩ := hb
      have : ks = [] := List.length_eq_zero_iff.1 h0
      subst this
      exact toS_nilXValue
    · exact toS_XValue b ks ih hk3 hk2 (fun e h0 => hb ⟨e, h0⟩)
  refine AH.intro Tryd.func13 nm13 rfl rfl rfl fun w0 ok0 own0 => ?_
  refine AWP.seq ?_
  refine AWP.region ?_
  refine AOps.box rfl rfl rfl rfl fun b1 => ?_
  refine AOps.alloc rfl z40 rfl rfl fun b2 => ?_
  refine AOps.nil ?_
  refine AWP.seq ?_
  refine AWP.region ?_
  refine AOps.alloc rfl z40 rfl rfl fun b3 => ?_
  refine AOps.nil ?_
  refine AWP.seq ?_
  refine AWP.region ?_
  refine Y (Yields.fieldAddr_ptr fo35_0 rfl) rfl ?_
  refine Y (Yields.load_ptr_field (j := 2) kd3 rfl rfl rfl rfl rfl rfl rfl) rfl ?_
  refine Y (Yields.fieldAddr_ptr fo40_0 rfl) rfl ?_
  refine AOps.storeField (j := 0) kd3 rfl rfl rfl rfl rfl rfl rfl ?_
  refine AOps.nil ?_
  refine AWP.seq ?_
  refine AWP.region ?_
  refine Y (Yields.fieldAddr_ptr fo35_1 rfl) rfl ?_
  refine Y (Yields.load_ptr_field (j := 2) kd3 rfl rfl rfl rfl rfl rfl rfl) rfl ?_
  refine Y (Yields.fieldAddr_ptr fo40_1 rfl) rfl ?_
  refine AOps.storeField (j := 0) kd3 rfl rfl rfl rfl rfl rfl rfl ?_
  refine AOps.nil ?_
  refine AWP.seq ?_
  refine AWP.region ?_
  refine Y (Yields.fieldAddr_ptr fo35_2 rfl) rfl ?_
  refine Y (Yields.load_ptr_field (j := 2) kd9 rfl rfl rfl rfl rfl rfl rfl) rfl ?_
  refine Y (Yields.fieldAddr_ptr fo40_2 rfl) rfl ?_
  refine AOps.storeField (j := 0) kd9 rfl rfl rfl rfl rfl rfl rfl ?_
  refine AOps.nil ?_
  refine AWP.seq ?_
  refine AWP.region ?_
  refine Y (Yields.fieldAddr_ptr fo35_3 rfl) rfl ?_
  refine Y (Yields.load_ptr_field (j := 2) kd33 rfl rfl rfl rfl rfl rfl rfl) rfl ?_
  refine Y (mv rfl) rfl ?_
  refine AOps.callH (.inl trivial) (hS) rfl rfl rfl (WkL.refl _) ?_
  rintro _ _ ⟨Bk, rfl, rfl⟩
  refine Y (Yields.fieldAddr_ptr fo40_3 rfl) rfl ?_
  refine AOps.storeField (j := 1) kd38 rfl rfl rfl rfl rfl rfl rfl ?_
  refine AOps.nil ?_
  refine AWP.seq ?_
  refine AWP.region ?_
  refine Y (Yields.load_ptr_agg (j := 1) kd40 rfl rfl rfl rfl) rfl ?_
  refine AOps.store (j := 2) kd40 rfl rfl rfl rfl rfl rfl ?_
  refine AOps.nil ?_
  refine AWP.ret ⟨.inl rfl, ?_⟩
  exact RetH.of (rs := [.cell 4 40]) (vs := [_]) rfl ⟨resOne.cell (j := 2) rfl rfl kd40 rfl rfl rfl, trivial⟩ (KeepR.cons 0 rfl KeepR.nil) (⟨Bk, rfl, rfl⟩)
theorem toS_nilXExpr : FnH 24 [] [.ro 4 [] [] false, bool true] (ownXs (Tr.spare true) []) := by
  refine AH.intro Tryd.func24 nm24 rfl rfl rfl fun w0 ok0 own0 => ?_
  refine AWP.seq ?_
  refine AWP.region ?_
  refine Y (ass rfl) rfl ?_
  refine AOps.nil ?_
  refine AWP.seq ?_
  refine AWP.seq ?_
  refine AWP.region ?_
  refine Y (mv rfl) rfl ?_
  refine Y (mv rfl) rfl ?_
  refine AOps.on rfl rfl ?_
  refine Y (mv rfl) rfl ?_
  refine AOps.on rfl rfl ?_
  refine Y (Yields.len_ro sl22 rfl) rfl ?_
  refine AOps.on rfl rfl ?_
  refine Y (bn rfl rfl BinR.eql rfl) rfl ?_
  refine Y (Yields.pick_true rfl rfl) rfl ?_
  refine AOps.nil ?_
  refine AWP.condT rfl (fun h => ?_) (fun h => ?_)
  ·
   replace h := eq_of_beq h
   refine AWP.seq ?_
   refine AWP.region ?_
   refine Y (ass rfl) rfl ?_
   refine AOps.nil ?_
   refine AWP.leads (Leads.own0 4 4 rfl) ?_
   refine AWP.ret ⟨.inl rfl, ?_⟩
   exact RetH.of (rs := [.tmp 4]) (vs := [_]) rfl ⟨rfl, trivial⟩ (KeepR.cons 0 rfl KeepR.nil) (⟨none, rfl, rfl⟩)
  ·
   replace h := ne_of_beq_false h
   simp at h
theorem toS_XExpr (b : Bool) (ks : List Tr) (hv : ∀ k ∈ ks, k.bnd 1000000 → FnH 8 [] [k.av, bool b] (ownX (Tr.spare b) k)) (hk : Tr.bnds 1000000 ks) (hl : ks.length ≤ 1000000) (hb : b = true → ks.length ≠ 0) :
    FnH 24 [] [.ro 4 (Tr.avs ks) [] false, bool b] (ownXs (Tr.spare b) ks) := by
  have hlen := Tr.avs_length ks
  have hlenR := Tr.avXs_length (Tr.spare b) ks
  have hroom : Tr.room (Tr.avs ks).length = Tr.room ks.length := by rw [hlen]
  have hrle := Tr.room_le ks.length
  refine AH.intro Tryd.func24 nm24 rfl rfl rfl fun w0 ok0 own0 => ?_
  refine AWP.seq ?_
  refine AWP.region ?_
  refine Y (ass rfl) rfl ?_
  refine AOps.nil ?_
  refine AWP.midT [(0, .ro 4 (Tr.avs ks) [] false), (1, bool b)] [] ?_ ?_
  · skip
    refine AWP.seq ?_
    refine AWP.region ?_
    refine Y (mv rfl) rfl ?_
    refine Y (mv rfl) rfl ?_
    refine AOps.split 9 rfl (fun h => ?_) (fun h => ?_)
    · skip
      refine AOps.on rfl rfl ?_
      refine Y (mv rfl) rfl ?_
      refine AOps.on rfl rfl ?_
      refine Y (Yields.len_ro sl22 rfl) rfl ?_
      refine AOps.on rfl rfl ?_
      refine Y (bn rfl rfl BinR.eql rfl) rfl ?_
      refine Y (Yields.pick_true rfl rfl) rfl ?_
      refine AOps.nil ?_
      refine AWP.condT rfl (fun h2 => ?_) (fun h2 => ?_)
      · replace h2 := eq_of_beq h2
        exact absurd h2 (by have := hb h; omega)
      · replace h2 := ne_of_beq_false h2
        refine AWP.skip ?_
        exact Leads.rows 0 ⟨rfl, rfl, trivial⟩
    · skip
      refine AOps.off' rfl rfl rfl rfl ?_
      refine AOps.off' rfl rfl rfl rfl ?_
      refine AOps.off' rfl rfl rfl rfl ?_
      refine Y (Yields.pick_false rfl rfl) rfl ?_
      refine AOps.nil ?_
      refine AWP.cond rfl (fun h => absurd h (by decide)) (fun _ => ?_)
      refine AWP.skip ?_
      exact Leads.rows 0 ⟨rfl, rfl, trivial⟩
  · skip
    refine AWP.seq ?_
    refine AWP.region ?_
    refine Y (mv rfl) rfl ?_
    refine Y (Yields.len_ro sl22 rfl) rfl ?_
    refine Y (mv rfl) rfl ?_
    refine Y (Yields.len_ro sl22 rfl) rfl ?_
    refine AOps.callro (roomBehind_AF (Tr.avs ks).length) rfl rfl rfl ?_
    refine Y (bn rfl rfl (BinR.addI (by omega) (by omega)) rfl) rfl ?_
    refine AOps.makeSlice (N := ks.length + Tr.room ks.length) sl27 z29 rfl rfl rfl rfl rfl rfl (by omega) (by omega) (by omega) (by omega) fun b1 => ?_
    refine Y (ass rfl) rfl ?_
    refine AOps.nil ?_
    refine AWP.seq ?_
    refine AWP.seq ?_
    refine AWP.region ?_
    refine Y (ass rfl) rfl ?_
    refine AOps.nil ?_
    refine AWP.block ?_
    refine AWP.loopV (α := Nat × List AV) (fun pp : Nat × List AV => match pp with | (i, xs) => ⟨[(0, .ro 4 (Tr.avs ks) [] false), (1, bool b), (5, .loc (some b1) 0 (ks.length + Tr.room ks.length) (ks.length + Tr.room ks.length) 4), (6, int i)], [(some b1, ⟨4, xs⟩)]⟩) (fun pp : Nat × List AV => match pp with | (i, xs) => i ≤ ks.length ∧ xs = Tr.avXs (Tr.spare b) (ks.take i) ++ List.replicate (ks.length + Tr.room ks.length - i) zero4) (fun pp : Nat × List AV => match pp with | (i, xs) => ks.length - i) ((0, List.replicate (ks.length + Tr.room ks.length) zero4)) ?_ ?_ ?_
    · exact Leads.rows 0 ⟨rfl, rfl, rfl, rfl, trivial⟩
    · show 0 ≤ ks.length ∧ (List.replicate (ks.length + Tr.room ks.length) zero4) = Tr.avXs (Tr.spare b) (ks.take 0) ++ List.replicate (ks.length + Tr.room ks.length - 0) zero4
      exact ⟨Nat.zero_le _, by simp [Tr.avXs]⟩
    · rintro ⟨i, xs⟩ hinv
      replace hinv : i ≤ ks.length ∧ xs = Tr.avXs (Tr.spare b) (ks.take i) ++ List.replicate (ks.length + Tr.room ks.length - i) zero4 := hinv
      show AWP _ _ _ _ ⟨[(0, .ro 4 (Tr.avs ks) [] false), (1, bool b), (5, .loc (some b1) 0 (ks.length + Tr.room ks.length) (ks.length + Tr.room ks.length) 4), (6, int i)], [(some b1, ⟨4, xs⟩)]⟩
      refine AWP.seq ?_
      refine AWP.seq ?_
      refine AWP.region ?_
      obtain ⟨hi, rfl⟩ := hinv
      refine Y (mv rfl) rfl ?_
      refine Y (mv rfl) rfl ?_
      refine Y (Yields.len_ro sl22 rfl) rfl ?_
      refine Y (bn rfl rfl BinR.lss rfl) rfl ?_
      refine AOps.nil ?_
      refine AWP.condT rfl (fun g => ?_) (fun g => ?_)
      · replace g := of_decide_eq_true g
        have hlt : i < ks.length := by omega
        obtain ⟨k, hk1, hd⟩ := drop_at hlt
        have hA : (Tr.avXs (Tr.spare b) (ks.take i)).length = i := by rw [Tr.avXs_length, List.length_take]; omega
        obtain ⟨ckd, cnm, ct, cks⟩ := k
        refine AWP.skip ?_
        refine AWP.seq ?_
        refine AWP.block ?_
        refine AWP.region ?_
        refine Y (mv rfl) rfl ?_
        refine Y (mv rfl) rfl ?_
        refine Y (mv rfl) rfl ?_
        refine Y (mv rfl) rfl ?_
        refine Y (Yields.idx_roN sl22 rfl rfl rfl rfl (by omega)) rfl ?_
        refine Y (Yields.load_rop_aggV kd24 rfl (Tr.avs_at hk1) rfl) rfl ?_
        refine Y (mv rfl) rfl ?_
        refine AOps.callH (.inl trivial) (hv _ (List.mem_of_getElem? hk1) (Tr.bnds_get hk hk1)) rfl rfl rfl (WkL.refl _) ?_
        rintro _ _ ⟨Bk, rfl, rfl⟩
        refine Y (Yields.idx_locN sl27 rfl rfl rfl (by omega)) rfl ?_
        refine AOps.store (j := 1) kd29 rfl rfl (get_step hA (by omega)) rfl rfl rfl ?_
        refine AOps.nil ?_
        refine AWP.region ?_
        refine AOps.leads (Leads.seal 0 i rfl (get_set_step hA (by omega)) (sealX _ _ _ _ _ _)) ?_
        refine Y (mv rfl) rfl ?_
        refine Y (bn rfl rfl (BinR.addI (by omega) (by omega)) rfl) rfl ?_
        refine Y (ass rfl) rfl ?_
        refine AOps.nil ?_
        refine ⟨(i + 1, ((Tr.avXs (Tr.spare b) (ks.take i) ++ List.replicate (ks.length + Tr.room ks.length - i) zero4).set (0 + i) (openX (Tr.spare b) Bk (.mk ckd cnm ct cks))).set i (Tr.avX (Tr.spare b) (.mk ckd cnm ct cks))), ?_, ?_, ?_⟩
        · show ks.length - (i + 1) < ks.length - i
          omega
        · show (i + 1) ≤ ks.length ∧ (((Tr.avXs (Tr.spare b) (ks.take i) ++ List.replicate (ks.length + Tr.room ks.length - i) zero4).set (0 + i) (openX (Tr.spare b) Bk (.mk ckd cnm ct cks))).set i (Tr.avX (Tr.spare b) (.mk ckd cnm ct cks))) = Tr.avXs (Tr.spare b) (ks.take (i + 1)) ++ List.replicate (ks.length + Tr.room ks.length - (i + 1)) zero4
          refine ⟨by omega, ?_⟩
          rw [set_set_step hA (by omega), ← Tr.avXs_take_succ (Tr.spare b) hk1, show ks.length + Tr.room ks.length - i - 1 = ks.length + Tr.room ks.length - (i + 1) by omega]
        · exact Leads.rows 0 ⟨rfl, rfl, rfl, rfl, trivial⟩
      · replace g := of_decide_eq_false g
        have hi' : i = ks.length := by omega
        subst hi'
        rw [List.take_length]
        refine AWP.exit ?_
        refine AWP.seq ?_
        refine AWP.seq ?_
        refine AWP.region ?_
        refine Y (mv rfl) rfl ?_
        refine Y (Yields.len_ro sl22 rfl) rfl ?_
        refine Y (ass rfl) rfl ?_
        refine AOps.nil ?_
        refine AWP.block ?_
        refine AWP.loopV (α := Nat × List AV) (fun pp : Nat × List AV => match pp with | (i, xs) => ⟨[(0, .ro 4 (Tr.avs ks) [] false), (1, bool b), (5, .loc (some b1) 0 (ks.length + Tr.room ks.length) (ks.length + Tr.room ks.length) 4), (7, int i)], [(some b1, ⟨4, xs⟩)]⟩) (fun pp : Nat × List AV => match pp with | (i, xs) => i ≤ ks.length + Tr.room ks.length ∧ ks.length ≤ i ∧ xs = Tr.avXs (Tr.spare b) ks ++ List.replicate (i - ks.length) Tr.fillT.av ++ List.replicate (ks.length + Tr.room ks.length - i) zero4) (fun pp : Nat × List AV => match pp with | (i, xs) => ks.length + Tr.room ks.length - i) ((ks.length, Tr.avXs (Tr.spare b) ks ++ List.replicate (ks.length + Tr.room ks.length - ks.length) zero4)) ?_ ?_ ?_
        · exact Leads.rows 0 ⟨rfl, rfl, rfl, (by show some (AV.val (Value.int .i64 _)) = some (AV.val (Value.int .i64 _)); rw [hlen]), trivial⟩
        · show ks.length ≤ ks.length + Tr.room ks.length ∧ ks.length ≤ ks.length ∧ (Tr.avXs (Tr.spare b) ks ++ List.replicate (ks.length + Tr.room ks.length - ks.length) zero4) = Tr.avXs (Tr.spare b) ks ++ List.replicate (ks.length - ks.length) Tr.fillT.av ++ List.replicate (ks.length + Tr.room ks.length - ks.length) zero4
          exact ⟨by omega, Nat.le_refl _, by simp⟩
        · rintro ⟨i, xs⟩ hinv
          replace hinv : i ≤ ks.length + Tr.room ks.length ∧ ks.length ≤ i ∧ xs = Tr.avXs (Tr.spare b) ks ++ List.replicate (i - ks.length) Tr.fillT.av ++ List.replicate (ks.length + Tr.room ks.length - i) zero4 := hinv
          show AWP _ _ _ _ ⟨[(0, .ro 4 (Tr.avs ks) [] false), (1, bool b), (5, .loc (some b1) 0 (ks.length + Tr.room ks.length) (ks.length + Tr.room ks.length) 4), (7, int i)], [(some b1, ⟨4, xs⟩)]⟩
          refine AWP.seq ?_
          refine AWP.seq ?_
          refine AWP.region ?_
          obtain ⟨hi, hi1, rfl⟩ := hinv
          refine Y (mv rfl) rfl ?_
          refine Y (mv rfl) rfl ?_
          refine Y (Yields.len_loc sl27 rfl) rfl ?_
          refine Y (bn rfl rfl BinR.lss rfl) rfl ?_
          refine AOps.nil ?_
          refine AWP.condT rfl (fun g2 => ?_) (fun g2 => ?_)
          · replace g2 := of_decide_eq_true g2
            have hA : (Tr.avXs (Tr.spare b) ks ++ List.replicate (i - ks.length) Tr.fillT.av).length = i := by rw [List.length_append, hlenR, List.length_replicate]; omega
            refine AWP.skip ?_
            refine AWP.seq ?_
            refine AWP.block ?_
            refine AWP.region ?_
            refine Y (mv rfl) rfl ?_
            refine Y (mv rfl) rfl ?_
            refine AOps.callro (filler_AFExpr) rfl rfl rfl ?_
            refine Y (Yields.idx_locN sl27 rfl rfl rfl (by omega)) rfl ?_
            refine AOps.store (j := 0) kd29 rfl rfl (get_step hA (by omega)) rfl rfl rfl ?_
            refine AOps.nil ?_
            refine AWP.region ?_
            refine Y (mv rfl) rfl ?_
            refine Y (bn rfl rfl (BinR.addI (by omega) (by omega)) rfl) rfl ?_
            refine Y (ass rfl) rfl ?_
            refine AOps.nil ?_
            refine ⟨(i + 1, (Tr.avXs (Tr.spare b) ks ++ List.replicate (i - ks.length) Tr.fillT.av ++ List.replicate (ks.length + Tr.room ks.length - i) zero4).set (0 + i) Tr.fillT.av), ?_, ?_, ?_⟩
            · show ks.length + Tr.room ks.length - (i + 1) < ks.length + Tr.room ks.length - i
              omega
            · show (i + 1) ≤ ks.length + Tr.room ks.length ∧ ks.length ≤ (i + 1) ∧ ((Tr.avXs (Tr.spare b) ks ++ List.replicate (i - ks.length) Tr.fillT.av ++ List.replicate (ks.length + Tr.room ks.length - i) zero4).set (0 + i) Tr.fillT.av) = Tr.avXs (Tr.spare b) ks ++ List.replicate ((i + 1) - ks.length) Tr.fillT.av ++ List.replicate (ks.length + Tr.room ks.length - (i + 1)) zero4
              refine ⟨by omega, by omega, ?_⟩
              rw [set_step hA (by omega), List.append_assoc (Tr.avXs (Tr.spare b) ks), ← List.replicate_succ', show i - ks.length + 1 = i + 1 - ks.length by omega, show ks.length + Tr.room ks.length - i - 1 = ks.length + Tr.room ks.length - (i + 1) by omega]
            · exact Leads.rows 0 ⟨rfl, rfl, rfl, rfl, trivial⟩
          · replace g2 := of_decide_eq_false g2
            have hi' : i = ks.length + Tr.room ks.length := by omega
            subst hi'
            have hsp : Tr.spare b ks.length = List.replicate (Tr.room ks.length) Tr.fillT.av := by
               unfold Tr.spare
               cases b with
               | false => rfl
               | true => rw [if_neg (by simpa using hb rfl)]
            refine AWP.exit ?_
            refine AWP.seq ?_
            refine AWP.region ?_
            refine Y (mv rfl) rfl ?_
            refine Y (mv rfl) rfl ?_
            refine Y (Yields.len_ro sl22 rfl) rfl ?_
            refine Y (Yields.slice_loc sl27 rfl (u := ks.length) ⟨.i64, by show some (AV.val (Value.int .i64 _)) = _; rw [hlen]⟩ (by omega)) rfl ?_
            refine Y (ass rfl) rfl ?_
            refine AOps.nil ?_
            refine AWP.ret ⟨.inl rfl, ?_⟩
            exact RetH.of (rs := [.tmp 4]) (vs := [_]) rfl ⟨rfl, trivial⟩ (KeepR.cons 0 rfl KeepR.nil) (⟨some b1, by rw [hsp, List.length_replicate]; rfl, by rw [hsp, Nat.sub_self, Nat.add_sub_cancel_left, List.replicate_zero, List.append_nil]⟩)
theorem to_XExpr (b : Bool) (k : Tr) : k.bnd 1000000 → FnH 8 [] [k.av, bool b] (ownX (Tr.spare b) k) := by
  induction k using Tr.ind
  rename_i kd nm t ks ih
  intro hk
  simp only [Tr.bnd] at hk
  obtain ⟨hk1, hk2, hk3⟩ := hk
  have hS : FnH 24 [] [.ro 4 (Tr.avs ks) [] false, bool b] (ownXs (Tr.spare b) ks) := by
    by_cases hb : b = true ∧ ks.length = 0
    · obtain ⟨rfl, h0⟩ := hb
      have : ks = [] := List.length_eq_zero_iff.1 h0
      subst this
      exact toS_nilXExpr
    · exact toS_XExpr b ks ih hk3 hk2 (fun e h0 => hb ⟨e, h0⟩)
  refine AH.intro Tryd.func8 nm8 rfl rfl rfl fun w0 ok0 own0 => ?_
  refine AWP.seq ?_
  refine AWP.region ?_
  refine AOps.box rfl rfl rfl rfl fun b1 => ?_
  refine AOps.alloc rfl z29 rfl rfl fun b2 => ?_
  refine AOps.nil ?_
  refine AWP.seq ?_
  refine AWP.region ?_
  refine AOps.alloc rfl z29 rfl rfl fun b3 => ?_
  refine AOps.nil ?_
  refine AWP.seq ?_
  refine AWP.region ?_
  refine Y (Yields.fieldAddr_ptr fo24_0 rfl) rfl ?_
  refine Y (Yields.load_ptr_field (j := 2) kd3 rfl rfl rfl rfl rfl rfl rfl) rfl ?_
  refine Y (Yields.fieldAddr_ptr fo29_0 rfl) rfl ?_
  refine AOps.storeField (j := 0) kd3 rfl rfl rfl rfl rfl rfl rfl ?_
  refine AOps.nil ?_
  refine AWP.seq ?_
  refine AWP.region ?_
  refine Y (Yields.fieldAddr_ptr fo24_1 rfl) rfl ?_
  refine Y (Yields.load_ptr_field (j := 2) kd3 rfl rfl rfl rfl rfl rfl rfl) rfl ?_
  refine Y (Yields.fieldAddr_ptr fo29_1 rfl) rfl ?_
  refine AOps.storeField (j := 0) kd3 rfl rfl rfl rfl rfl rfl rfl ?_
  refine AOps.nil ?_
  refine AWP.seq ?_
  refine AWP.region ?_
  refine Y (Yields.fieldAddr_ptr fo24_2 rfl) rfl ?_
  refine Y (Yields.load_ptr_field (j := 2) kd9 rfl rfl rfl rfl rfl rfl rfl) rfl ?_
  refine Y (Yields.fieldAddr_ptr fo29_2 rfl) rfl ?_
  refine AOps.storeField (j := 0) kd9 rfl rfl rfl rfl rfl rfl rfl ?_
  refine AOps.nil ?_
  refine AWP.seq ?_
  refine AWP.region ?_
  refine Y (Yields.fieldAddr_ptr fo24_3 rfl) rfl ?_
  refine Y (Yields.load_ptr_field (j := 2) kd22 rfl rfl rfl rfl rfl rfl rfl) rfl ?_
  refine Y (mv rfl) rfl ?_
  refine AOps.callH (.inl trivial) (hS) rfl rfl rfl (WkL.refl _) ?_
  rintro _ _ ⟨Bk, rfl, rfl⟩
  refine Y (Yields.fieldAddr_ptr fo29_3 rfl) rfl ?_
  refine AOps.storeField (j := 1) kd27 rfl rfl rfl rfl rfl rfl rfl ?_
  refine AOps.nil ?_
  refine AWP.seq ?_
  refine AWP.region ?_
  refine Y (Yields.load_ptr_agg (j := 1) kd29 rfl rfl rfl rfl) rfl ?_
  refine AOps.store (j := 2) kd29 rfl rfl rfl rfl rfl rfl ?_
  refine AOps.nil ?_
  refine AWP.ret ⟨.inl rfl, ?_⟩
  exact RetH.of (rs := [.cell 4 29]) (vs := [_]) rfl ⟨resOne.cell (j := 2) rfl rfl kd29 rfl rfl rfl, trivial⟩ (KeepR.cons 0 rfl KeepR.nil) (⟨Bk, rfl, rfl⟩)
end Go.Proofs.YtccdgppplkfjfaaDoor
