/- The draw of expressions: functions in reach, calls, all expressions. -/
import Derived.Test.YteieleejhbljfaaGreatMk
namespace Go.Proofs.YteieleejhbljfaaGreat
open Go Go.Ax Go.Proofs
set_option linter.unusedVariables false
set_option linter.unusedSimpArgs false
set_option maxRecDepth 20000
def placeOk (a b : Int) : Prop := (a = 0 ∧ b = 0) ∨ (a = 0 ∧ b = 1) ∨ (a = -1 ∧ b = -1)
theorem key_place1 : keyOf Tryz.prog 81 (.agg #[.int .i64 0, .int .i64 0]) = some (.string (keyBytes [.int .i64 0, .int .i64 0])) := by kernel_rfl
theorem key_place2 : keyOf Tryz.prog 81 (.agg #[.int .i64 0, .int .i64 1]) = some (.string (keyBytes [.int .i64 0, .int .i64 1])) := by kernel_rfl
theorem key_place3 : keyOf Tryz.prog 81 (.agg #[.int .i64 (-1), .int .i64 (-1)]) = some (.string (keyBytes [.int .i64 (-1), .int .i64 (-1)])) := by kernel_rfl
theorem key_place {a b : Int} (h : placeOk a b) : ∃ l, keyOf Tryz.prog 81 (.agg #[.int .i64 a, .int .i64 b]) = some l := by
  rcases h with ⟨rfl, rfl⟩ | ⟨rfl, rfl⟩ | ⟨rfl, rfl⟩
  · exact ⟨_, key_place1⟩
  · exact ⟨_, key_place2⟩
  · exact ⟨_, key_place3⟩
theorem eql_place (x y : Operand) {a b c d : Int} (h : placeOk a b) (h2 : placeOk c d) : ∃ r : Bool, BinR Tryz.prog .eql 81 x y (.agg [.int .i64 a, .int .i64 b].toArray) (.agg [.int .i64 c, .int .i64 d].toArray) (.bool r) := by
  obtain ⟨lx, hx⟩ := key_place h
  obtain ⟨ly, hy⟩ := key_place h2
  exact BinR.eqlAgg 10 rfl (by kernel_rfl) (by kernel_rfl) (by kernel_rfl) hx hy
theorem found_place (s : ByteArray) : placeOk (foundV s).1 (foundV s).2 := by
  have h := declI_le s declsL 0 (by omega)
  have h2 : declsL.length = 2 := rfl
  unfold foundV placeOk
  split <;> simp <;> omega
theorem declsL_short : ∀ d ∈ declsL, d.n.size ≤ 24 := by decide
def mkS (b m : Nat) (code : List UInt8) (p : Nat) (left : Int) (calm : Bool) : AV → Hp → Prop := fun r hp' => ∃ (B : Option Nat) (l : List ByteArray), l.length ≤ 2 ∧ shortL l ∧ r = .loc B 0 l.length l.length 1 ∧ hp' = [src b code p, mkR b m left calm, (B, ⟨1, strs l⟩)]
theorem funs_AH (t : ByteArray) (b m : Nat) (code : List UInt8) (p : Nat) (left : Int) (calm : Bool) : FnH 98 [src b code p, mkR b m left calm] [.ptr (some m) 0 0 5, str t] (mkS b m code p left calm) := by
  have hld : (declsV declsL).length = 2 := rfl
  have hl2 : declsL.length = 2 := rfl
  refine AH.intro Tryz.func98 nm98 rfl rfl rfl fun w0 ok0 own0 => ?_
  refine AWP.seq ?_
  refine AWP.region ?_
  refine Y (ass rfl) rfl ?_
  refine AOps.nil ?_
  refine AWP.seq ?_
  refine AWP.region ?_
  refine AOps.buildSlice sl27 z9 rfl rfl rfl rfl rfl fun b0 => ?_
  refine Y (ass rfl) rfl ?_
  refine AOps.nil ?_
  refine AWP.seq ?_
  refine AWP.seq ?_
  refine AWP.region ?_
  refine Y (ass rfl) rfl ?_
  refine AOps.nil ?_
  refine AWP.block ?_
  refine AWP.loopV (α := Option Nat × List ByteArray × Nat) (fun pp : Option Nat × List ByteArray × Nat => match pp with | (B, l, i) => ⟨[(0, .ptr (some m) 0 0 5), (1, str t), (5, .loc B 0 l.length l.length 1), (6, int i)], [(B, ⟨1, strs l⟩), src b code p, mkR b m left calm]⟩) (fun pp : Option Nat × List ByteArray × Nat => match pp with | (B, l, i) => i ≤ 1 ∧ l.length ≤ 2 * i ∧ shortL l) (fun pp : Option Nat × List ByteArray × Nat => match pp with | (B, l, i) => 1 - i) ((some b0, [], 0)) ?_ ?_ ?_
  · exact Leads.keepR (KeepR.cons 0 rfl (KeepR.cons 0 rfl (KeepR.cons 0 rfl KeepR.nil))) ⟨rfl, rfl, rfl, rfl, trivial⟩
  ·
   show 0 ≤ 1 ∧ ([]).length ≤ 2 * 0 ∧ shortL ([])
   exact ⟨by omega, by simp, fun s hs => by simp at hs⟩
  ·
   rintro ⟨B, l, i⟩ hinv
   replace hinv : i ≤ 1 ∧ l.length ≤ 2 * i ∧ shortL l := hinv
   show AWP _ _ _ _ ⟨[(0, .ptr (some m) 0 0 5), (1, str t), (5, .loc B 0 l.length l.length 1), (6, int i)], [(B, ⟨1, strs l⟩), src b code p, mkR b m left calm]⟩
   refine AWP.seq ?_
   refine AWP.seq ?_
   refine AWP.region ?_
   obtain ⟨hi, hl1, hls⟩ := hinv
   refine Y (mv rfl) rfl ?_
   refine Y (mv rfl) rfl ?_
   refine Y (Yields.nilCheck_ptr rfl) rfl ?_
   refine Y (Yields.fieldAddr_ptr fo69_1 rfl) rfl ?_
   refine Y (Yields.load_ptr_field (j := 2) kd48 rfl rfl rfl rfl rfl rfl rfl) rfl ?_
   refine Y (Yields.len_ro sl48 rfl) rfl ?_
   refine Y (bn rfl rfl BinR.lss rfl) rfl ?_
   refine AOps.nil ?_
   refine AWP.condT rfl (fun g => ?_) (fun g => ?_)
   ·
    replace g := of_decide_eq_true g
    have hi0 : i = 0 := by simp at g; omega
    refine AWP.skip ?_
    refine AWP.seq ?_
    refine AWP.block ?_
    refine AWP.seq ?_
    refine AWP.region ?_
    refine Y (ass rfl) rfl ?_
    refine AOps.nil ?_
    refine AWP.block ?_
    refine AWP.loopV (α := Option Nat × List ByteArray × Nat) (fun pp : Option Nat × List ByteArray × Nat => match pp with | (B, l, k) => ⟨[(0, .ptr (some m) 0 0 5), (1, str t), (5, .loc B 0 l.length l.length 1), (6, int i), (7, int k)], [(B, ⟨1, strs l⟩), src b code p, mkR b m left calm]⟩) (fun pp : Option Nat × List ByteArray × Nat => match pp with | (B, l, k) => k ≤ 2 ∧ l.length ≤ k ∧ shortL l) (fun pp : Option Nat × List ByteArray × Nat => match pp with | (B, l, k) => 2 - k) ((B, l, 0)) ?_ ?_ ?_
    · exact Leads.keepR (KeepR.cons 0 rfl (KeepR.cons 0 rfl (KeepR.cons 0 rfl KeepR.nil))) ⟨rfl, rfl, rfl, rfl, rfl, trivial⟩
    ·
     show 0 ≤ 2 ∧ l.length ≤ 0 ∧ shortL l
     exact ⟨by omega, by omega, hls⟩
    ·
     rintro ⟨B, l, k⟩ hinv
     replace hinv : k ≤ 2 ∧ l.length ≤ k ∧ shortL l := hinv
     show AWP _ _ _ _ ⟨[(0, .ptr (some m) 0 0 5), (1, str t), (5, .loc B 0 l.length l.length 1), (6, int i), (7, int k)], [(B, ⟨1, strs l⟩), src b code p, mkR b m left calm]⟩
     refine AWP.seq ?_
     refine AWP.seq ?_
     refine AWP.region ?_
     obtain ⟨hk, hl1, hls⟩ := hinv
     refine Y (mv rfl) rfl ?_
     refine Y (mv rfl) rfl ?_
     refine Y (Yields.nilCheck_ptr rfl) rfl ?_
     refine Y (Yields.fieldAddr_ptr fo69_1 rfl) rfl ?_
     refine Y (Yields.load_ptr_field (j := 2) kd48 rfl rfl rfl rfl rfl rfl rfl) rfl ?_
     refine Y (mv rfl) rfl ?_
     refine Y (Yields.idx_roN sl48 rfl rfl rfl (j := 0) (by omega) (by decide)) rfl ?_
     refine Y (Yields.fieldAddr_rop fo73_2 rfl) rfl ?_
     refine Y (Yields.load_rop_field kd71 rfl rfl rfl rfl rfl) rfl ?_
     refine Y (Yields.len_ro sl71 rfl) rfl ?_
     refine Y (bn rfl rfl BinR.lss rfl) rfl ?_
     refine AOps.nil ?_
     refine AWP.condT rfl (fun g2 => ?_) (fun g2 => ?_)
     ·
      replace g2 := of_decide_eq_true g2
      obtain ⟨x, hx, _⟩ := drop_at (l := declsL) (i := k) (by omega)
      have hxg := declsL_good x (List.mem_of_getElem? hx)
      have hxs := declsL_short x (List.mem_of_getElem? hx)
      refine AWP.skip ?_
      refine AWP.seq ?_
      refine AWP.block ?_
      refine AWP.seq ?_
      refine AWP.region ?_
      refine Y (mv rfl) rfl ?_
      refine Y (Yields.nilCheck_ptr rfl) rfl ?_
      refine Y (Yields.fieldAddr_ptr fo69_1 rfl) rfl ?_
      refine Y (Yields.load_ptr_field (j := 2) kd48 rfl rfl rfl rfl rfl rfl rfl) rfl ?_
      refine Y (mv rfl) rfl ?_
      refine Y (Yields.idx_roN sl48 rfl rfl rfl (j := 0) (by omega) (by decide)) rfl ?_
      refine Y (Yields.fieldAddr_rop fo73_2 rfl) rfl ?_
      refine Y (Yields.load_rop_field kd71 rfl rfl rfl rfl rfl) rfl ?_
      refine Y (mv rfl) rfl ?_
      refine Y (Yields.idx_roN sl71 rfl rfl rfl (j := k) rfl (by omega)) rfl ?_
      refine Y (Yields.load_rop_aggV kd84 rfl (declsV_at hx) rfl) rfl ?_
      refine AOps.alloc rfl z84 rfl rfl fun b8 => ?_
      refine AOps.store (j := 0) kd84 rfl rfl rfl rfl rfl rfl ?_
      refine AOps.nil ?_
      refine AWP.seq ?_
      refine AWP.prune (tm' := [(0, _), (1, _), (5, _), (6, _), (7, _), (29, _), (8, _)]) ⟨rfl, rfl, rfl, rfl, rfl, rfl, rfl, trivial⟩ ?_
      refine AWP.drawn mixed rfl rfl ?_
      refine D (tm' := [(8, _)]) ⟨rfl, trivial⟩ (DStep.yields (Yields.fieldAddr_ptr fo84_0 rfl)) rfl ?_
      refine D (tm' := [(43, _)]) ⟨rfl, trivial⟩ (DStep.yields (Yields.load_ptr_field (j := 0) kd3 rfl rfl rfl rfl rfl rfl rfl)) rfl ?_
      refine D (tm' := [(44, _)]) ⟨rfl, trivial⟩ (DStep.yields (bn rfl rfl BinR.eql rfl)) rfl ?_
      refine D (tm' := [(45, _)]) ⟨rfl, trivial⟩ (DStep.yields (mv rfl)) rfl ?_
      refine DOps.split 3 rfl (fun c => ?_) (fun c => ?_)
      ·
       replace c := eq_of_beq c
       refine DOps.on rfl rfl ?_
       refine D (tm' := [(8, _)]) ⟨rfl, trivial⟩ (DStep.yields (Yields.fieldAddr_ptr fo84_3 rfl)) rfl ?_
       refine DOps.on rfl rfl ?_
       refine D (tm' := [(47, _)]) ⟨rfl, trivial⟩ (DStep.yields (Yields.load_ptr_field (j := 0) kd9 rfl rfl rfl rfl rfl rfl rfl)) rfl ?_
       refine DOps.on rfl rfl ?_
       refine D (tm' := [(1, _)]) ⟨rfl, trivial⟩ (DStep.yields (mv rfl)) rfl ?_
       refine DOps.on rfl rfl ?_
       refine D (tm' := [(48, _), (49, _)]) ⟨rfl, rfl, trivial⟩ (DStep.yields (bn rfl rfl BinR.seql rfl)) rfl ?_
       refine D (tm' := [(46, _), (50, _)]) ⟨rfl, rfl, trivial⟩ (DStep.yields (Yields.pick_true rfl rfl)) rfl ?_
       refine D (tm' := [(51, _)]) ⟨rfl, trivial⟩ (DStep.yields (mv rfl)) rfl ?_
       refine DOps.split 9 rfl (fun c2 => ?_) (fun c2 => ?_)
       ·
        replace c2 := of_decide_eq_true c2
        refine DOps.on rfl rfl ?_
        refine D (tm' := [(0, _)]) ⟨rfl, trivial⟩ (DStep.yields (mv rfl)) rfl ?_
        refine DOps.on rfl rfl ?_
        refine D (tm' := [(53, _)]) ⟨rfl, trivial⟩ (DStep.yields (Yields.nilCheck_ptr rfl)) rfl ?_
        refine DOps.on rfl rfl ?_
        refine D (tm' := [(54, _)]) ⟨rfl, trivial⟩ (DStep.yields (Yields.fieldAddr_ptr fo69_1 rfl)) rfl ?_
        refine DOps.on rfl rfl ?_
        refine D (tm' := [(55, _)]) ⟨rfl, trivial⟩ (DStep.yields (Yields.load_ptr_field (j := 3) kd48 rfl rfl rfl rfl rfl rfl rfl)) rfl ?_
        refine DOps.on rfl rfl ?_
        refine D (tm' := [(0, _)]) ⟨rfl, trivial⟩ (DStep.yields (mv rfl)) rfl ?_
        refine DOps.on rfl rfl ?_
        refine D (tm' := [(57, _)]) ⟨rfl, trivial⟩ (DStep.yields (Yields.nilCheck_ptr rfl)) rfl ?_
        refine DOps.on rfl rfl ?_
        refine D (tm' := [(58, _)]) ⟨rfl, trivial⟩ (DStep.yields (Yields.fieldAddr_ptr fo69_2 rfl)) rfl ?_
        refine DOps.on rfl rfl ?_
        refine D (tm' := [(59, _)]) ⟨rfl, trivial⟩ (DStep.yields (Yields.load_ptr_field (j := 3) kd3 rfl rfl rfl rfl rfl rfl rfl)) rfl ?_
        refine DOps.on rfl rfl ?_
        refine D (tm' := [(8, _)]) ⟨rfl, trivial⟩ (DStep.yields (Yields.fieldAddr_ptr fo84_1 rfl)) rfl ?_
        refine DOps.on rfl rfl ?_
        refine D (tm' := [(61, _)]) ⟨rfl, trivial⟩ (DStep.yields (Yields.load_ptr_field (j := 0) kd9 rfl rfl rfl rfl rfl rfl rfl)) rfl ?_
        refine DOps.on rfl rfl ?_
        refine D (tm' := [(56, _), (60, _), (62, _)]) ⟨rfl, rfl, rfl, trivial⟩ (DStep.callro (found_AF x.n) rfl rfl) rfl ?_
        refine DOps.on rfl rfl ?_
        refine D (tm' := [(6, _)]) ⟨rfl, trivial⟩ (DStep.yields (mv rfl)) rfl ?_
        refine DOps.on rfl rfl ?_
        refine D (tm' := [(7, _)]) ⟨rfl, trivial⟩ (DStep.yields (mv rfl)) rfl ?_
        refine DOps.on rfl rfl ?_
        refine D (tm' := [(64, _), (65, _)]) ⟨rfl, rfl, trivial⟩ (DStep.yields (Yields.build pl81 z81 rfl rfl)) rfl ?_
        obtain ⟨r9, hr9⟩ := eql_place (.tmp 63) (.tmp 66) (found_place x.n) (c := i) (d := k) (by unfold placeOk; omega)
        refine DOps.on rfl rfl ?_
        refine D (tm' := [(63, _), (66, _)]) ⟨rfl, rfl, trivial⟩ (DStep.yields (Yields.binAgg (la := [_, _]) (lb := [_, _]) rfl rfl rfl hr9)) rfl ?_
        refine D (tm' := [(52, _), (67, _)]) ⟨rfl, rfl, trivial⟩ (DStep.yields (Yields.pick_true rfl rfl)) rfl ?_
        refine DOps.nil ?_
        refine AWP.condT rfl (fun c3 => ?_) (fun c3 => ?_)
        ·
         skip
         refine AWP.region ?_
         refine Y (mv rfl) rfl ?_
         refine Y (Yields.fieldAddr_ptr fo84_1 rfl) rfl ?_
         refine Y (Yields.load_ptr_field (j := 0) kd9 rfl rfl rfl rfl rfl rfl rfl) rfl ?_
         refine AOps.buildSlice sl27 z9 rfl rfl rfl rfl rfl fun bs1 => ?_
         refine AOps.appendE (j := 2) sl27 z9 rfl rfl rfl rfl rfl (by simp [strs]) rfl (src_row (j2 := 0) rfl rfl rfl) (len_app l x.n) (strs_app l x.n) (by simp; omega) (by simp; omega) fun Bn => ?_
         refine Y (ass rfl) rfl ?_
         refine AOps.nil ?_
         refine AWP.region ?_
         refine Y (mv rfl) rfl ?_
         refine Y (bn rfl rfl (BinR.addI (by omega) (by omega)) rfl) rfl ?_
         refine Y (ass rfl) rfl ?_
         refine AOps.nil ?_
         refine ⟨(Bn, l ++ [x.n], k + 1), ?_, ?_, ?_⟩
         ·
          show 2 - (k + 1) < 2 - k
          omega
         ·
          show (k + 1) ≤ 2 ∧ (l ++ [x.n]).length ≤ (k + 1) ∧ shortL (l ++ [x.n])
          exact ⟨by omega, by simp; omega, fun s hs' => by rcases List.mem_append.1 hs' with q | q; exact hls s q; rw [List.mem_singleton.1 q]; exact hxs⟩
         · exact Leads.keepR (KeepR.cons 2 rfl (KeepR.cons 2 rfl (KeepR.cons 2 rfl KeepR.nil))) ⟨rfl, rfl, rfl, rfl, rfl, trivial⟩
        ·
         skip
         refine AWP.skip ?_
         refine AWP.region ?_
         refine Y (mv rfl) rfl ?_
         refine Y (bn rfl rfl (BinR.addI (by omega) (by omega)) rfl) rfl ?_
         refine Y (ass rfl) rfl ?_
         refine AOps.nil ?_
         refine ⟨(B, l, k + 1), ?_, ?_, ?_⟩
         ·
          show 2 - (k + 1) < 2 - k
          omega
         ·
          show (k + 1) ≤ 2 ∧ l.length ≤ (k + 1) ∧ shortL l
          exact ⟨by omega, by omega, hls⟩
         · exact Leads.keepR (KeepR.cons 1 rfl (KeepR.cons 1 rfl (KeepR.cons 1 rfl KeepR.nil))) ⟨rfl, rfl, rfl, rfl, rfl, trivial⟩
       ·
        replace c2 := of_decide_eq_false c2
        refine DOps.off rfl rfl rfl rfl ?_
        refine DOps.off rfl rfl rfl rfl ?_
        refine DOps.off rfl rfl rfl rfl ?_
        refine DOps.off rfl rfl rfl rfl ?_
        refine DOps.off rfl rfl rfl rfl ?_
        refine DOps.off rfl rfl rfl rfl ?_
        refine DOps.off rfl rfl rfl rfl ?_
        refine DOps.off rfl rfl rfl rfl ?_
        refine DOps.off rfl rfl rfl rfl ?_
        refine DOps.off rfl rfl rfl rfl ?_
        refine DOps.off rfl rfl rfl rfl ?_
        refine DOps.off rfl rfl rfl rfl ?_
        refine DOps.off rfl rfl rfl rfl ?_
        refine DOps.off rfl rfl rfl rfl ?_
        refine DOps.off rfl rfl rfl rfl ?_
        refine D (tm' := [(52, _), (67, _)]) ⟨rfl, rfl, trivial⟩ (DStep.yields (Yields.pick_false rfl rfl)) rfl ?_
        refine DOps.nil ?_
        refine AWP.cond rfl (fun h => absurd h (by decide)) (fun _ => ?_)
        refine AWP.skip ?_
        refine AWP.region ?_
        refine Y (mv rfl) rfl ?_
        refine Y (bn rfl rfl (BinR.addI (by omega) (by omega)) rfl) rfl ?_
        refine Y (ass rfl) rfl ?_
        refine AOps.nil ?_
        refine ⟨(B, l, k + 1), ?_, ?_, ?_⟩
        ·
         show 2 - (k + 1) < 2 - k
         omega
        ·
         show (k + 1) ≤ 2 ∧ l.length ≤ (k + 1) ∧ shortL l
         exact ⟨by omega, by omega, hls⟩
        · exact Leads.keepR (KeepR.cons 1 rfl (KeepR.cons 1 rfl (KeepR.cons 1 rfl KeepR.nil))) ⟨rfl, rfl, rfl, rfl, rfl, trivial⟩
      ·
       replace c := ne_of_beq_false c
       exact absurd hxg.2 c
     ·
      replace g2 := of_decide_eq_false g2
      refine AWP.exit ?_
      refine AWP.region ?_
      refine Y (mv rfl) rfl ?_
      refine Y (bn rfl rfl (BinR.addI (by omega) (by omega)) rfl) rfl ?_
      refine Y (ass rfl) rfl ?_
      refine AOps.nil ?_
      refine ⟨(B, l, i + 1), ?_, ?_, ?_⟩
      ·
       show 1 - (i + 1) < 1 - i
       omega
      ·
       show (i + 1) ≤ 1 ∧ l.length ≤ 2 * (i + 1) ∧ shortL l
       exact ⟨by omega, by omega, hls⟩
      · exact Leads.keepR (KeepR.cons 0 rfl (KeepR.cons 0 rfl (KeepR.cons 0 rfl KeepR.nil))) ⟨rfl, rfl, rfl, rfl, trivial⟩
   ·
    replace g := of_decide_eq_false g
    refine AWP.exit ?_
    refine AWP.seq ?_
    refine AWP.region ?_
    refine Y (mv rfl) rfl ?_
    refine Y (ass rfl) rfl ?_
    refine AOps.nil ?_
    refine AWP.ret ⟨.inl rfl, ?_⟩
    exact RetH.of (rs := [.tmp 4]) (vs := [_]) rfl ⟨rfl, trivial⟩ (KeepR.cons 1 rfl (KeepR.cons 1 rfl (KeepR.cons 0 rfl KeepR.nil))) (⟨B, l, by omega, hls, rfl, rfl⟩)
def capM : Nat → Nat
  | 0 => capP 4 + 20
  | n + 1 => 40 + 4 * capM n
theorem capM_pos : ∀ n, 100 ≤ capM n
  | 0 => by decide
  | n + 1 => by have := capM_pos n; rw [capM]; omega
def MakeOk (e b m : Nat) (code : List UInt8) (calm : Bool) : Prop := ∀ (t : ByteArray) (bs : Binds) (p : Nat) (left deep : Int), typP t → bs.length + e ≤ 500 → (∀ x ∈ bs, x.1.size ≤ 24) → deep ≤ e → -100 ≤ deep → p + capM e ≤ 1000000 → left ≤ 1000000 → -1000000000 ≤ left - capM e →
  FnH 63 [src b code p, mkR b m left calm] [.ptr (some m) 0 0 5, str t, .ro 2 (bindsV bs) [] false, int deep] (mkE (capM e) b m code p left calm)
theorem typP_int : typP tInt := List.mem_cons_self
theorem calling_AH (e b m : Nat) (code : List UInt8) (calm : Bool) (ih : MakeOk e b m code calm) (s : ByteArray) (bs : Binds) (p : Nat) (left deep : Int) (hs : s.size ≤ 24) (hbs : bs.length + e ≤ 500) (hbs2 : ∀ x ∈ bs, x.1.size ≤ 24) (hd : deep ≤ e + 1) (hd2 : 0 ≤ deep) (hp : p + (4 + capM e) ≤ 1000000) (hl : left ≤ 1000000) (hl2 : -1000000000 ≤ left - (4 + capM e)) :
    FnH 99 [src b code p, mkR b m left calm] [.ptr (some m) 0 0 5, str s, .ro 2 (bindsV bs) [] false, int deep] (mkE (4 + capM e) b m code p left calm) := by
  have hcp := capM_pos e
  refine AH.intro Tryz.func99 nm99 rfl rfl rfl fun w0 ok0 own0 => ?_
  refine AWP.seq ?_
  refine AWP.region ?_
  refine AOps.alloc rfl z25 rfl rfl fun b8 => ?_
  refine AOps.nil ?_
  refine AWP.seq ?_
  refine AWP.prune (tm' := [(0, _), (1, _), (2, _), (3, _), (8, _)]) ⟨rfl, rfl, rfl, rfl, rfl, trivial⟩ ?_
  refine AWP.drawnM [] [.pure 0, .pure 1, .pure 2, .pure 3, .pure 4, .pure 5, .pure 6, .pure 7, .pure 8, .pure 13, .spine 9 [] [0, 1, 2, 3, 4, 5, 6, 7, 8], .pure 10, .pure 11, .pure 12, .spine 14 [13] [0, 1, 2, 3, 4, 5, 6, 7, 8, 9, 10, 11, 13], .pure 15] mixed rfl rfl rfl rfl rfl ?_
  refine DM.pure (GX (tm' := [(0, _)]) rfl ⟨rfl, trivial⟩ rfl (DStep.yields (mv rfl)) rfl) ?_
  refine DM.pure (GX (tm' := [(14, _)]) rfl ⟨rfl, trivial⟩ rfl (DStep.yields (Yields.nilCheck_ptr rfl)) rfl) ?_
  refine DM.pure (GX (tm' := [(15, _)]) rfl ⟨rfl, trivial⟩ rfl (DStep.yields (Yields.fieldAddr_ptr fo69_1 rfl)) rfl) ?_
  refine DM.pure (GX (tm' := [(16, _)]) rfl ⟨rfl, trivial⟩ rfl (DStep.yields (Yields.load_ptr_field (j := 2) kd48 rfl rfl rfl rfl rfl rfl rfl)) rfl) ?_
  refine DM.pure (GX (tm' := [(0, _)]) rfl ⟨rfl, trivial⟩ rfl (DStep.yields (mv rfl)) rfl) ?_
  refine DM.pure (GX (tm' := [(18, _)]) rfl ⟨rfl, trivial⟩ rfl (DStep.yields (Yields.nilCheck_ptr rfl)) rfl) ?_
  refine DM.pure (GX (tm' := [(19, _)]) rfl ⟨rfl, trivial⟩ rfl (DStep.yields (Yields.fieldAddr_ptr fo69_2 rfl)) rfl) ?_
  refine DM.pure (GX (tm' := [(20, _)]) rfl ⟨rfl, trivial⟩ rfl (DStep.yields (Yields.load_ptr_field (j := 2) kd3 rfl rfl rfl rfl rfl rfl rfl)) rfl) ?_
  refine DM.pure (GX (tm' := [(1, _)]) rfl ⟨rfl, trivial⟩ rfl (DStep.yields (mv rfl)) rfl) ?_
  refine DM.pure (GXs (tm' := []) rfl trivial rfl rfl (DStepU.alloc z84 rfl rfl) rfl) ?_
  refine DM.sp rfl rfl ?_
  refine DOpen.nil fun _ _ _ => ?_
  refine AOps.subT (tm' := [(17, _), (21, _), (22, _)]) ⟨rfl, rfl, rfl, trivial⟩ ?_
  refine AOps.callH (.inl trivial) (function_AH s) rfl rfl rfl (WkL.refl _) ?_
  rintro _ _ ⟨⟨dk, dn, dbs, dt, dbk, dbn, dbt, dbks⟩, f, ⟨hg1, hg2⟩, rfl, rfl⟩
  refine AOps.nil ?_
  refine SpK.mk rfl rfl ?_ ?_
  ·
   skip
   refine Stab.skip rfl ?_
   refine Stab.keep (GXs (tm' := []) rfl trivial rfl rfl (DStepU.alloc z84 rfl rfl) rfl) ?_
   refine Stab.skip rfl ?_
   refine Stab.skip rfl ?_
   refine Stab.skip rfl ?_
   refine Stab.skip rfl ?_
   refine Stab.skip rfl ?_
   refine Stab.skip rfl ?_
   refine Stab.skip rfl ?_
   refine Stab.skip rfl ?_
   refine Stab.skip rfl ?_
   exact trivial
  refine DM.pure (GX (tm' := [(23, _)]) rfl ⟨rfl, trivial⟩ rfl (DStep.yields (mv rfl)) rfl) ?_
  refine DM.pure (GX (tm' := [(13, _)]) rfl ⟨rfl, trivial⟩ rfl (DStep.yields (Yields.extract rfl rfl)) rfl) ?_
  refine DM.pure (GX (tm' := [(13, _)]) rfl ⟨rfl, trivial⟩ rfl (DStep.yields (Yields.extract rfl rfl)) rfl) ?_
  refine DM.sp rfl rfl ?_
  refine DOpen.optr rfl fun b9 => ?_
  refine DOpen.nil fun _ _ _ => ?_
  refine AOps.subT (tm' := [(9, _), (24, _)]) ⟨rfl, rfl, trivial⟩ ?_
  refine AOps.store (j := 0) kd84 rfl rfl rfl rfl rfl rfl ?_
  refine AOps.nil ?_
  refine SpK.mk0 ?_ ?_
  ·
   skip
   refine Stab.keep (GX (tm' := [(13, _)]) rfl ⟨rfl, trivial⟩ rfl (DStep.yields (Yields.extract rfl rfl)) rfl) ?_
   refine Stab.skip rfl ?_
   refine Stab.skip rfl ?_
   refine Stab.skip rfl ?_
   refine Stab.skip rfl ?_
   refine Stab.skip rfl ?_
   refine Stab.skip rfl ?_
   refine Stab.skip rfl ?_
   refine Stab.skip rfl ?_
   refine Stab.skip rfl ?_
   refine Stab.skip rfl ?_
   refine Stab.skip rfl ?_
   refine Stab.skip rfl ?_
   refine Stab.skip rfl ?_
   exact trivial
  refine DM.pure (GX (tm' := [(25, _)]) rfl ⟨rfl, trivial⟩ rfl (DStep.yields (ass rfl)) rfl) ?_
  refine DM.nil ?_
  refine AWP.seq ?_
  refine AWP.region ?_
  refine Y (mv rfl) rfl ?_
  refine Y (Yields.build pl25 z25 rfl rfl) rfl ?_
  refine AOps.alloc rfl z25 rfl rfl fun b11 => ?_
  refine AOps.store (j := 0) kd25 rfl rfl rfl rfl rfl rfl ?_
  refine AOps.nil ?_
  refine AWP.seq ?_
  refine AWP.seq ?_
  refine AWP.region ?_
  refine Y (ass rfl) rfl ?_
  refine AOps.nil ?_
  refine AWP.leads (Leads.rowWk 0 0 rfl rfl (Wk.agg (ps := [_, _, _, .loc none 0 0 0 4]) ⟨Wk.refl _, Wk.refl _, Wk.refl _, Wk.nilLoc (n := 4), trivial⟩)) ?_
  refine AWP.leads (Leads.row0 4) ?_
  refine AWP.block ?_
  refine AWP.loopV (α := Option Nat × List Tr × Nat × Nat × Int) (fun pp : Option Nat × List Tr × Nat × Nat × Int => match pp with | (B, l, q, j, lf) => ⟨[(0, .ptr (some m) 0 0 5), (2, .ro 2 (bindsV bs) [] false), (3, int deep), (8, .ptr (some b8) 0 0 4), (9, .ptr (some b9) 0 0 8), (11, .ptr (some b11) 0 0 4), (12, int j)], [src b code q, mkR b m lf calm, (some b11, ⟨4, [.agg [int 4, int 0, str s, .loc B 0 l.length l.length 4]]⟩), (B, ⟨4, Tr.avs l⟩), (some b9, ⟨8, [declR ⟨dk, dn, dbs, dt, dbk, dbn, dbt, dbks⟩]⟩), (some b8, ⟨4, [zero4]⟩)]⟩) (fun pp : Option Nat × List Tr × Nat × Nat × Int => match pp with | (B, l, q, j, lf) => j ≤ dbs.length ∧ l.length = j ∧ Tr.bnds 1000000 l ∧ sizeTs l ≤ j * capM e ∧ p ≤ q ∧ q ≤ p + j * capM e ∧ left - j * capM e ≤ lf ∧ lf ≤ left) (fun pp : Option Nat × List Tr × Nat × Nat × Int => match pp with | (B, l, q, j, lf) => dbs.length - j) ((none, [], p, 0, left)) ?_ ?_ ?_
  · exact Leads.keepR (KeepR.cons 4 rfl (KeepR.cons 4 rfl (KeepR.cons 1 rfl (KeepR.cons 0 rfl (KeepR.cons 0 rfl (KeepR.cons 0 rfl KeepR.nil)))))) ⟨rfl, rfl, rfl, rfl, rfl, rfl, rfl, trivial⟩
  ·
   show 0 ≤ dbs.length ∧ ([]).length = 0 ∧ Tr.bnds 1000000 ([]) ∧ sizeTs ([]) ≤ 0 * capM e ∧ p ≤ p ∧ p ≤ p + 0 * capM e ∧ left - 0 * capM e ≤ left ∧ left ≤ left
   exact ⟨by omega, rfl, trivial, by simp [sizeTs], by omega, by omega, by simp, by omega⟩
  ·
   rintro ⟨B, l, q, j, lf⟩ hinv
   replace hinv : j ≤ dbs.length ∧ l.length = j ∧ Tr.bnds 1000000 l ∧ sizeTs l ≤ j * capM e ∧ p ≤ q ∧ q ≤ p + j * capM e ∧ left - j * capM e ≤ lf ∧ lf ≤ left := hinv
   show AWP _ _ _ _ ⟨[(0, .ptr (some m) 0 0 5), (2, .ro 2 (bindsV bs) [] false), (3, int deep), (8, .ptr (some b8) 0 0 4), (9, .ptr (some b9) 0 0 8), (11, .ptr (some b11) 0 0 4), (12, int j)], [src b code q, mkR b m lf calm, (some b11, ⟨4, [.agg [int 4, int 0, str s, .loc B 0 l.length l.length 4]]⟩), (B, ⟨4, Tr.avs l⟩), (some b9, ⟨8, [declR ⟨dk, dn, dbs, dt, dbk, dbn, dbt, dbks⟩]⟩), (some b8, ⟨4, [zero4]⟩)]⟩
   refine AWP.seq ?_
   refine AWP.seq ?_
   refine AWP.region ?_
   obtain ⟨hj, hln, hlb, hls, hq1, hq2, hf1, hf2⟩ := hinv
   have hdl : dbs.length ≤ 1 := hg1
   have hbl := bindsV_length dbs
   refine Y (mv rfl) rfl ?_
   refine Y (Yields.fieldAddr_ptr fo84_2 rfl) rfl ?_
   refine Y (Yields.load_ptr_field (j := 4) kd82 rfl rfl rfl rfl rfl rfl rfl) rfl ?_
   refine Y (Yields.len_ro sl82 rfl) rfl ?_
   refine Y (bn rfl rfl BinR.lss rfl) rfl ?_
   refine AOps.nil ?_
   refine AWP.condT rfl (fun g => ?_) (fun g => ?_)
   ·
    replace g := of_decide_eq_true g
    replace g : (j : Int) < ((bindsV dbs).length : Int) := g
    have hj0 : j = 0 := by omega
    obtain ⟨x, hx, _⟩ := drop_at (l := dbs) (i := j) (by omega)
    have e1 : j * capM e = 0 := by rw [hj0]; simp
    have e2 : (j : Int) * capM e = 0 := by rw [hj0]; simp
    have e3 : (j + 1) * capM e = capM e := by rw [hj0]; simp
    have e4 : ((j : Int) + 1) * capM e = capM e := by rw [hj0]; simp
    have hxt : x.2 = tInt := hg2 x (List.mem_of_getElem? hx)
    refine AWP.skip ?_
    refine AWP.seq ?_
    refine AWP.block ?_
    refine AWP.prune (tm' := [(0, _), (2, _), (3, _), (8, _), (9, _), (11, _), (12, _), (32, _)]) ⟨rfl, rfl, rfl, rfl, rfl, rfl, rfl, rfl, trivial⟩ ?_
    refine AWP.drawnM [] [.pure 0, .pure 1, .pure 2, .pure 3, .pure 4, .pure 5, .pure 6, .pure 7, .pure 8, .pure 9, .pure 10, .pure 11, .spine 12 [] [2, 3, 4, 5, 6, 7, 8, 9, 10, 11], .pure 13, .spine 14 [13] [0, 1, 2, 3, 4, 5, 6, 7, 8, 9, 10, 11, 12, 13], .pure 15, .spine 16 [] [0, 1, 2, 3, 4, 5, 6, 7, 8, 9, 10, 11, 12, 13, 14, 15]] mixed rfl rfl rfl rfl rfl ?_
    refine DM.pure (GX (tm' := [(11, _)]) rfl ⟨rfl, trivial⟩ rfl (DStep.yields (Yields.fieldAddr_ptr fo25_3 rfl)) rfl) ?_
    refine DM.pure (GX (tm' := [(35, _)]) rfl ⟨rfl, trivial⟩ rfl (DStep.yields (Yields.load_ptr_field (j := 2) kd23 rfl rfl rfl rfl rfl rfl rfl)) rfl) ?_
    refine DM.pure (GX (tm' := [(0, _)]) rfl ⟨rfl, trivial⟩ rfl (DStep.yields (mv rfl)) rfl) ?_
    refine DM.pure (GX (tm' := [(9, _)]) rfl ⟨rfl, trivial⟩ rfl (DStep.yields (Yields.fieldAddr_ptr fo84_2 rfl)) rfl) ?_
    refine DM.pure (GX (tm' := [(38, _)]) rfl ⟨rfl, trivial⟩ rfl (DStep.yields (Yields.load_ptr_field (j := 4) kd82 rfl rfl rfl rfl rfl rfl rfl)) rfl) ?_
    refine DM.pure (GX (tm' := [(12, _)]) rfl ⟨rfl, trivial⟩ rfl (DStep.yields (mv rfl)) rfl) ?_
    refine DM.pure (GX (tm' := [(39, _), (40, _)]) rfl ⟨rfl, rfl, trivial⟩ rfl (DStep.yields (Yields.idx_roN sl82 rfl rfl rfl rfl (show j < (bindsV dbs).length by omega))) rfl) ?_
    refine DM.pure (GX (tm' := [(41, _)]) rfl ⟨rfl, trivial⟩ rfl (DStep.yields (Yields.fieldAddr_rop fo89_1 rfl)) rfl) ?_
    refine DM.pure (GX (tm' := [(42, _)]) rfl ⟨rfl, trivial⟩ rfl (DStep.yields (Yields.load_rop_field kd9 rfl rfl (bindsV_at hx) rfl rfl)) rfl) ?_
    refine DM.pure (GX (tm' := [(2, _)]) rfl ⟨rfl, trivial⟩ rfl (DStep.yields (mv rfl)) rfl) ?_
    refine DM.pure (GX (tm' := [(3, _)]) rfl ⟨rfl, trivial⟩ rfl (DStep.yields (mv rfl)) rfl) ?_
    refine DM.pure (GX (tm' := [(45, _)]) rfl ⟨rfl, trivial⟩ rfl (DStep.yields (bn rfl rfl (BinR.subI (by omega) (by omega)) rfl)) rfl) ?_
    refine DM.sp rfl rfl ?_
    refine DOpen.nil fun _ _ _ => ?_
    refine AOps.subT (tm' := [(37, _), (43, _), (44, _), (46, _)]) ⟨rfl, rfl, rfl, rfl, trivial⟩ ?_
    refine AOps.leads (Leads.pull 1 rfl) ?_
    refine AOps.leads (Leads.pull 1 rfl) ?_
    refine AOps.callH (.inl trivial) (ih x.2 bs q lf (deep - 2) (hxt ▸ typP_int) hbs hbs2 (by omega) (by omega) (by omega) (by omega) (by omega)) rfl rfl rfl (WkL.refl _) ?_
    rintro _ _ ⟨⟨vk, vn, vt, vks⟩, q2, lf2, w1, w2, w3, w4, w5, w6, rfl, rfl⟩
    refine AOps.nil ?_
    refine SpK.mk rfl rfl ?_ ?_
    ·
     skip
     refine Stab.skip rfl ?_
     refine Stab.skip rfl ?_
     refine Stab.skip rfl ?_
     refine Stab.skip rfl ?_
     refine Stab.skip rfl ?_
     refine Stab.skip rfl ?_
     refine Stab.skip rfl ?_
     refine Stab.skip rfl ?_
     refine Stab.skip rfl ?_
     refine Stab.skip rfl ?_
     refine Stab.skip rfl ?_
     refine Stab.keep (GX (tm' := [(35, _)]) rfl ⟨rfl, trivial⟩ rfl (DStep.yields (Yields.load_ptr_field (j := 2) kd23 rfl rfl rfl rfl rfl rfl rfl)) rfl) ?_
     refine Stab.keep (GX (tm' := [(11, _)]) rfl ⟨rfl, trivial⟩ rfl (DStep.yields (Yields.fieldAddr_ptr fo25_3 rfl)) rfl) ?_
     exact trivial
    refine DM.pure (GXs (tm' := [(47, _)]) rfl ⟨rfl, trivial⟩ rfl rfl (DStepU.buildSlice sl23 z25 rfl rfl rfl rfl) rfl) ?_
    refine DM.sp rfl rfl ?_
    refine DOpen.own rfl fun Bs => ?_
    refine DOpen.nil fun _ _ _ => ?_
    refine AOps.subT (tm' := [(36, _), (48, _)]) ⟨rfl, rfl, trivial⟩ ?_
    refine AOps.appendE (j := 4) sl23 z25 rfl rfl rfl rfl rfl (Tr.avs_length l) rfl (src_row (j2 := 0) rfl rfl rfl) (show l.length + 1 = (l ++ [Tr.mk vk vn vt vks]).length by simp) (avs_snoc l (.mk vk vn vt vks)) (by simp; omega) (by simp; omega) fun Bn => ?_
    refine AOps.nil ?_
    refine SpK.mk rfl rfl (Stab.all rfl) ?_
    refine DM.pure (GX (tm' := [(11, _)]) rfl ⟨rfl, trivial⟩ rfl (DStep.yields (Yields.fieldAddr_ptr fo25_3 rfl)) rfl) ?_
    refine DM.sp rfl rfl ?_
    refine DOpen.nil fun _ _ _ => ?_
    refine AOps.subT (tm' := [(50, _), (49, _)]) ⟨rfl, rfl, trivial⟩ ?_
    refine AOps.storeField (j := 3) kd23 rfl rfl rfl rfl rfl rfl rfl ?_
    refine AOps.nil ?_
    refine SpK.mk0 (Stab.all rfl) ?_
    refine DM.nil ?_
    refine AWP.region ?_
    refine Y (mv rfl) rfl ?_
    refine Y (bn rfl rfl (BinR.addI (by omega) (by omega)) rfl) rfl ?_
    refine Y (ass rfl) rfl ?_
    refine AOps.nil ?_
    refine ⟨(Bn, l ++ [Tr.mk vk vn vt vks], q2, j + 1, lf2), ?_, ?_, ?_⟩
    ·
     show dbs.length - (j + 1) < dbs.length - j
     omega
    ·
     show (j + 1) ≤ dbs.length ∧ (l ++ [Tr.mk vk vn vt vks]).length = (j + 1) ∧ Tr.bnds 1000000 (l ++ [Tr.mk vk vn vt vks]) ∧ sizeTs (l ++ [Tr.mk vk vn vt vks]) ≤ (j + 1) * capM e ∧ p ≤ q2 ∧ q2 ≤ p + (j + 1) * capM e ∧ left - (j + 1) * capM e ≤ lf2 ∧ lf2 ≤ left
     exact ⟨by omega, by simp; omega, bnds_snoc hlb w1, by rw [sizeTs_snoc, e4]; omega, by omega, by omega, by omega, by omega⟩
    · exact Leads.keepR (KeepR.cons 1 rfl (KeepR.cons 1 rfl (KeepR.cons 1 rfl (KeepR.cons 1 rfl (KeepR.cons 1 rfl (KeepR.cons 1 rfl KeepR.nil)))))) ⟨rfl, rfl, rfl, rfl, rfl, rfl, rfl, trivial⟩
   ·
    replace g := of_decide_eq_false g
    refine AWP.exit ?_
    refine AWP.seq ?_
    refine AWP.region ?_
    refine Y (Yields.load_ptr_agg (j := 2) kd25 rfl rfl rfl rfl) rfl ?_
    refine AOps.leads (Leads.pull 3 rfl) ?_
    refine AOps.leads (Leads.freezeT 1 51 (.inl trivial) rfl (fz_node rfl)) ?_
    have hls2 : (j : Int) * capM e ≤ 1 * capM e := Int.mul_le_mul_of_nonneg_right (by omega) (by omega)
    have hlc2 : j * capM e ≤ 1 * capM e := Nat.mul_le_mul_right _ (by omega)
    refine AOps.store (j := 4) kd25 rfl rfl rfl rfl rfl rfl ?_
    refine AOps.nil ?_
    refine AWP.ret ⟨.inl rfl, ?_⟩
    exact RetH.of (rs := [.cell 8 25]) (vs := [_]) rfl ⟨resOne.cell (j := 4) rfl rfl kd25 rfl rfl rfl, trivial⟩ (KeepR.cons 0 rfl (KeepR.cons 0 rfl KeepR.nil)) (⟨.mk 4 0 s l, q, lf, ⟨by omega, by omega, hlb⟩, by rw [sizeT]; omega, by omega, by omega, by omega, by omega, rfl, rfl⟩)
theorem bnd1 {k n : Int} {t : ByteArray} {x : Tr} (ht : t.size ≤ 30) (hx : x.bnd 1000000) : Tr.bnd 1000000 (.mk k n t [x]) := ⟨by omega, by simp, hx, trivial⟩
theorem bnd2 {k n : Int} {t : ByteArray} {x y : Tr} (ht : t.size ≤ 30) (hx : x.bnd 1000000) (hy : y.bnd 1000000) : Tr.bnd 1000000 (.mk k n t [x, y]) := ⟨by omega, by simp, hx, hy, trivial⟩
theorem bnd3 {k n : Int} {t : ByteArray} {x y z : Tr} (ht : t.size ≤ 30) (hx : x.bnd 1000000) (hy : y.bnd 1000000) (hz : z.bnd 1000000) : Tr.bnd 1000000 (.mk k n t [x, y, z]) := ⟨by omega, by simp, hx, hy, hz, trivial⟩
theorem size1 (k n : Int) (t : ByteArray) (x : Tr) : sizeT (.mk k n t [x]) = 1 + sizeT x := by rw [sizeT, sizeTs, sizeTs]; omega
theorem size2 (k n : Int) (t : ByteArray) (x y : Tr) : sizeT (.mk k n t [x, y]) = 1 + sizeT x + sizeT y := by rw [sizeT, sizeTs, sizeTs, sizeTs]; omega
theorem size3 (k n : Int) (t : ByteArray) (x y z : Tr) : sizeT (.mk k n t [x, y, z]) = 1 + sizeT x + sizeT y + sizeT z := by rw [sizeT, sizeTs, sizeTs, sizeTs, sizeTs]; omega
theorem typP_bool : typP ⟨#[98, 111, 111, 108]⟩ := by unfold typP typesL; simp
theorem typP_text : typP ⟨#[116, 101, 120, 116]⟩ := by unfold typP typesL; simp
theorem typP_il : typP ⟨#[91, 105, 110, 116, 93]⟩ := by unfold typP typesL; simp
theorem typP_tl : typP ⟨#[91, 116, 101, 120, 116, 93]⟩ := by unfold typP typesL; simp
theorem typP_size {t : ByteArray} (h : typP t) : t.size ≤ 7 := by
  have : ∀ s ∈ typesL, s.size ≤ 7 := by decide
  exact this t h
theorem item_il : isItem ⟨#[91, 105, 110, 116, 93]⟩ = true ∧ itemOf ⟨#[91, 105, 110, 116, 93]⟩ = ⟨#[105, 110, 116]⟩ := by constructor <;> kernel_rfl
theorem item_tl : isItem ⟨#[91, 116, 101, 120, 116, 93]⟩ = true ∧ itemOf ⟨#[91, 116, 101, 120, 116, 93]⟩ = ⟨#[116, 101, 120, 116]⟩ := by constructor <;> kernel_rfl
theorem item_iil : isItem ⟨#[91, 91, 105, 110, 116, 93, 93]⟩ = true ∧ itemOf ⟨#[91, 91, 105, 110, 116, 93, 93]⟩ = ⟨#[91, 105, 110, 116, 93]⟩ := by constructor <;> kernel_rfl
theorem typP_item {t : ByteArray} (h : typP t) (h1 : t ≠ ⟨#[105, 110, 116]⟩) (h2 : t ≠ ⟨#[98, 111, 111, 108]⟩) (h3 : t ≠ ⟨#[116, 101, 120, 116]⟩) : isItem t = true ∧ typP (itemOf t) := by
  unfold typP typesL at h
  simp only [List.mem_cons, List.not_mem_nil, or_false] at h
  rcases h with rfl | rfl | rfl | rfl | rfl | rfl | rfl | rfl | rfl
  · exact absurd rfl h1
  · exact absurd rfl h1
  · exact absurd rfl h1
  · exact absurd rfl h2
  · exact absurd rfl h3
  · exact ⟨item_il.1, by rw [item_il.2]; exact typP_int⟩
  · exact ⟨item_il.1, by rw [item_il.2]; exact typP_int⟩
  · exact ⟨item_tl.1, by rw [item_tl.2]; exact typP_text⟩
  · exact ⟨item_iil.1, by rw [item_iil.2]; exact typP_il⟩
def op1L : List ByteArray := [⟨#[43]⟩, ⟨#[43]⟩, ⟨#[45]⟩, ⟨#[42]⟩]
def op2L : List ByteArray := [⟨#[38]⟩, ⟨#[124]⟩]
def op3L : List ByteArray := [⟨#[60]⟩, ⟨#[61, 61]⟩]
def overL : List ByteArray := [⟨#[91, 105, 110, 116, 93]⟩, ⟨#[91, 105, 110, 116, 93]⟩, ⟨#[91, 116, 101, 120, 116, 93]⟩]
def overP (s : ByteArray) : Prop := s = ⟨#[91, 105, 110, 116, 93]⟩ ∨ s = ⟨#[91, 116, 101, 120, 116, 93]⟩
theorem overP_typ {s : ByteArray} (h : overP s) : typP s := by
  rcases h with rfl | rfl
  · exact typP_il
  · exact typP_tl
theorem overL_P : ∀ s ∈ overL, overP s := by
  intro s hs
  simp only [overL, List.mem_cons, List.not_mem_nil, or_false] at hs
  rcases hs with rfl | rfl | rfl
  · exact .inl rfl
  · exact .inl rfl
  · exact .inr rfl
theorem viewL_vals : ∀ l : List AV, plainL l = true → ViewL l l := fun l h => viewL_refl h
theorem plain_binds : ∀ l : Binds, plainL (bindsV l) = true
  | [] => rfl
  | x :: l => by simp only [bindsV, List.map_cons, plainL, Bool.and_eq_true]; exact ⟨rfl, plain_binds l⟩
theorem fz_binds {B : Option Nat} {l : Binds} {len : Nat} (hl : len = l.length) : Fz [(B, ⟨2, bindsV l⟩)] (.loc B 0 len len 2) (.ro 2 (bindsV l) [] false) := by
  subst hl
  exact (Bor.loc (j := 0) rfl (by simp [bindsV_length]) (by rw [List.take_of_length_le (by simp [bindsV_length])]; exact viewL_refl (plain_binds l))).fz
theorem binds_app (l : Binds) (x : ByteArray × ByteArray) : bindsV l ++ [bindV x.1 x.2] = bindsV (l ++ [x]) := by simp [bindsV]
theorem binds_short {bs : Binds} {s u : ByteArray} (h : ∀ x ∈ bs, x.1.size ≤ 24) (hs : s.size ≤ 24) : ∀ x ∈ bs ++ [(s, u)], x.1.size ≤ 24 := fun x hx => by
  rcases List.mem_append.1 hx with q | q
  · exact h x q
  · rw [List.mem_singleton.1 q]; exact hs
theorem typed_AH (e b m : Nat) (code : List UInt8) (calm : Bool) (hc : code.length ≤ 1048576) (ih : MakeOk e b m code calm) (t : ByteArray) (bs : Binds) (p : Nat) (left deep : Int) (ht : typP t) (hbs : bs.length + (e + 1) ≤ 500) (hbs2 : ∀ x ∈ bs, x.1.size ≤ 24) (hd : deep ≤ e + 1) (hd2 : 0 ≤ deep) (hp : p + (20 + 3 * capM e) ≤ 1000000) (hl : left ≤ 1000000) (hl2 : -1000000000 ≤ left - (20 + 3 * capM e)) :
    FnH 102 [src b code p, mkR b m left calm] [.ptr (some m) 0 0 5, str t, .ro 2 (bindsV bs) [] false, int deep] (mkE (20 + 3 * capM e) b m code p left calm) := by
  have hcp := capM_pos e
  have hts := typP_size ht
  refine AH.intro Tryz.func102 nm102 rfl rfl rfl fun w0 ok0 own0 => ?_
  refine AWP.seq ?_
  refine AWP.region ?_
  refine AOps.alloc rfl z25 rfl rfl fun b8 => ?_
  refine AOps.nil ?_
  refine AWP.seq ?_
  refine AWP.seq ?_
  refine AWP.region ?_
  refine Y (mv rfl) rfl ?_
  refine AOps.nil ?_
  refine AWP.block ?_
  refine AWP.seq ?_
  refine AWP.region ?_
  refine Y (bn rfl rfl BinR.seql rfl) rfl ?_
  refine Y (ass rfl) rfl ?_
  refine AOps.nil ?_
  refine AWP.condT rfl (fun c0 => ?_) (fun c0 => ?_)
  ·
   replace c0 := of_decide_eq_true c0
   refine AWP.seq ?_
   refine AWP.seq ?_
   refine AWP.region ?_
   refine Y (mv rfl) rfl ?_
   refine Y (Yields.nilCheck_ptr rfl) rfl ?_
   refine Y (Yields.fieldAddr_ptr fo69_0 rfl) rfl ?_
   refine Y (Yields.load_ptr_field (j := 2) kd46 rfl rfl rfl rfl rfl rfl rfl) rfl ?_
   refine AOps.leads (Leads.pull 1 rfl) ?_
   refine AOps.callH (.inl trivial) (pick_AH b code p 4 hc (by omega) (by omega) (by omega)) rfl rfl rfl (WkL.refl _) ?_
   rintro _ _ ⟨m0, q0, g1, g2, g3, g4, rfl, rfl⟩
   refine Y (bn rfl rfl BinR.eql rfl) rfl ?_
   refine AOps.nil ?_
   refine AWP.condT rfl (fun c1 => ?_) (fun c1 => ?_)
   ·
    replace c1 := eq_of_beq c1
    refine AWP.seq ?_
    refine AWP.region ?_
    refine Y (mv rfl) rfl ?_
    refine Y (mv rfl) rfl ?_
    refine Y (mv rfl) rfl ?_
    refine Y (bn rfl rfl (BinR.subI (by omega) (by omega)) rfl) rfl ?_
    refine AOps.leads (Leads.pull 2 rfl) ?_
    refine AOps.leads (Leads.pull 1 rfl) ?_
    refine AOps.callH (.inl trivial) (ih ⟨#[91, 105, 110, 116, 93]⟩ bs q0 left (deep - 1) (typP_il) (by omega) (hbs2) (by omega) (by omega) (by omega) (by omega) (by omega)) rfl rfl rfl (WkL.refl _) ?_
    rintro _ _ ⟨⟨vk1, vn1, vt1, vks1⟩, q1, lf1, u11, u12, u13, u14, u15, u16, rfl, rfl⟩
    refine AOps.step (DStep.buildRo sl23 z25 rfl rfl rfl rfl) rfl ?_
    refine Y (Yields.build pl25 z25 rfl rfl) rfl ?_
    refine AOps.store (j := 2) kd25 rfl rfl rfl rfl rfl rfl ?_
    refine AOps.nil ?_
    refine AWP.ret ⟨.inl rfl, ?_⟩
    exact RetH.of (rs := [.cell 8 25]) (vs := [_]) rfl ⟨resOne.cell (j := 2) rfl rfl kd25 rfl rfl rfl, trivial⟩ (KeepR.cons 0 rfl (KeepR.cons 0 rfl KeepR.nil)) (⟨.mk 13 0 ⟨#[]⟩ [.mk vk1 vn1 vt1 vks1], q1, lf1, bnd1 (by decide) u11, by rw [size1]; omega, by omega, by omega, by omega, by omega, rfl, rfl⟩)
   ·
    replace c1 := ne_of_beq_false c1
    refine AWP.skip ?_
    refine AWP.seq ?_
    refine AWP.region ?_
    refine Y (mv rfl) rfl ?_
    refine Y (Yields.nilCheck_ptr rfl) rfl ?_
    refine Y (Yields.fieldAddr_ptr fo69_0 rfl) rfl ?_
    refine Y (Yields.load_ptr_field (j := 2) kd46 rfl rfl rfl rfl rfl rfl rfl) rfl ?_
    refine AOps.step (DStep.buildRo sl27 z9 rfl rfl rfl rfl) rfl ?_
    refine AOps.callH (.inl trivial) (one_AH b code q0 24 op1L hc (by omega) (by decide) (by decide)) rfl rfl rfl (WkL.refl _) ?_
    rintro _ _ ⟨sa, q9, j1a, j2a, j3a, rfl, rfl⟩
    refine Y (mv rfl) rfl ?_
    refine Y (mv rfl) rfl ?_
    refine Y (mv rfl) rfl ?_
    refine Y (bn rfl rfl (BinR.subI (by omega) (by omega)) rfl) rfl ?_
    refine AOps.leads (Leads.pull 2 rfl) ?_
    refine AOps.leads (Leads.pull 1 rfl) ?_
    refine AOps.callH (.inl trivial) (ih ⟨#[105, 110, 116]⟩ bs q9 left (deep - 1) (typP_int) (by omega) (hbs2) (by omega) (by omega) (by omega) (by omega) (by omega)) rfl rfl rfl (WkL.refl _) ?_
    rintro _ _ ⟨⟨vk1, vn1, vt1, vks1⟩, q1, lf1, u11, u12, u13, u14, u15, u16, rfl, rfl⟩
    refine Y (mv rfl) rfl ?_
    refine Y (mv rfl) rfl ?_
    refine Y (mv rfl) rfl ?_
    refine Y (bn rfl rfl (BinR.subI (by omega) (by omega)) rfl) rfl ?_
    refine AOps.leads (Leads.pull 1 rfl) ?_
    refine AOps.leads (Leads.pull 1 rfl) ?_
    refine AOps.callH (.inl trivial) (ih ⟨#[105, 110, 116]⟩ bs q1 lf1 (deep - 1) (typP_int) (by omega) (hbs2) (by omega) (by omega) (by omega) (by omega) (by omega)) rfl rfl rfl (WkL.refl _) ?_
    rintro _ _ ⟨⟨vk2, vn2, vt2, vks2⟩, q2, lf2, u21, u22, u23, u24, u25, u26, rfl, rfl⟩
    refine AOps.step (DStep.buildRo sl23 z25 rfl rfl rfl rfl) rfl ?_
    refine Y (Yields.build pl25 z25 rfl rfl) rfl ?_
    refine AOps.store (j := 2) kd25 rfl rfl rfl rfl rfl rfl ?_
    refine AOps.nil ?_
    refine AWP.ret ⟨.inl rfl, ?_⟩
    exact RetH.of (rs := [.cell 8 25]) (vs := [_]) rfl ⟨resOne.cell (j := 2) rfl rfl kd25 rfl rfl rfl, trivial⟩ (KeepR.cons 0 rfl (KeepR.cons 0 rfl KeepR.nil)) (⟨.mk 9 0 sa [.mk vk1 vn1 vt1 vks1, .mk vk2 vn2 vt2 vks2], q2, lf2, bnd2 (by omega) u11 u21, by rw [size2]; omega, by omega, by omega, by omega, by omega, rfl, rfl⟩)
  ·
   replace c0 := of_decide_eq_false c0
   refine AWP.seq ?_
   refine AWP.region ?_
   refine Y (bn rfl rfl BinR.seql rfl) rfl ?_
   refine Y (ass rfl) rfl ?_
   refine AOps.nil ?_
   refine AWP.condT rfl (fun c2 => ?_) (fun c2 => ?_)
   ·
    replace c2 := of_decide_eq_true c2
    refine AWP.seq ?_
    refine AWP.seq ?_
    refine AWP.region ?_
    refine Y (mv rfl) rfl ?_
    refine Y (Yields.nilCheck_ptr rfl) rfl ?_
    refine Y (Yields.fieldAddr_ptr fo69_0 rfl) rfl ?_
    refine Y (Yields.load_ptr_field (j := 2) kd46 rfl rfl rfl rfl rfl rfl rfl) rfl ?_
    refine AOps.leads (Leads.pull 1 rfl) ?_
    refine AOps.callH (.inl trivial) (pick_AH b code p 4 hc (by omega) (by omega) (by omega)) rfl rfl rfl (WkL.refl _) ?_
    rintro _ _ ⟨m0, q0, g1, g2, g3, g4, rfl, rfl⟩
    refine AOps.nil ?_
    refine AWP.block ?_
    refine AWP.seq ?_
    refine AWP.region ?_
    refine Y (bn rfl rfl BinR.eql rfl) rfl ?_
    refine Y (ass rfl) rfl ?_
    refine AOps.nil ?_
    refine AWP.condT rfl (fun c3 => ?_) (fun c3 => ?_)
    ·
     replace c3 := eq_of_beq c3
     refine AWP.seq ?_
     refine AWP.region ?_
     refine Y (mv rfl) rfl ?_
     refine Y (mv rfl) rfl ?_
     refine Y (mv rfl) rfl ?_
     refine Y (bn rfl rfl (BinR.subI (by omega) (by omega)) rfl) rfl ?_
     refine AOps.leads (Leads.pull 2 rfl) ?_
     refine AOps.leads (Leads.pull 1 rfl) ?_
     refine AOps.callH (.inl trivial) (ih ⟨#[98, 111, 111, 108]⟩ bs q0 left (deep - 1) (typP_bool) (by omega) (hbs2) (by omega) (by omega) (by omega) (by omega) (by omega)) rfl rfl rfl (WkL.refl _) ?_
     rintro _ _ ⟨⟨vk1, vn1, vt1, vks1⟩, q1, lf1, u11, u12, u13, u14, u15, u16, rfl, rfl⟩
     refine AOps.step (DStep.buildRo sl23 z25 rfl rfl rfl rfl) rfl ?_
     refine Y (Yields.build pl25 z25 rfl rfl) rfl ?_
     refine AOps.store (j := 2) kd25 rfl rfl rfl rfl rfl rfl ?_
     refine AOps.nil ?_
     refine AWP.ret ⟨.inl rfl, ?_⟩
     exact RetH.of (rs := [.cell 8 25]) (vs := [_]) rfl ⟨resOne.cell (j := 2) rfl rfl kd25 rfl rfl rfl, trivial⟩ (KeepR.cons 0 rfl (KeepR.cons 0 rfl KeepR.nil)) (⟨.mk 8 0 ⟨#[]⟩ [.mk vk1 vn1 vt1 vks1], q1, lf1, bnd1 (by decide) u11, by rw [size1]; omega, by omega, by omega, by omega, by omega, rfl, rfl⟩)
    ·
     replace c3 := ne_of_beq_false c3
     refine AWP.seq ?_
     refine AWP.region ?_
     refine Y (bn rfl rfl BinR.eql rfl) rfl ?_
     refine Y (ass rfl) rfl ?_
     refine AOps.nil ?_
     refine AWP.condT rfl (fun c4 => ?_) (fun c4 => ?_)
     ·
      replace c4 := eq_of_beq c4
      refine AWP.seq ?_
      refine AWP.region ?_
      refine Y (mv rfl) rfl ?_
      refine Y (Yields.nilCheck_ptr rfl) rfl ?_
      refine Y (Yields.fieldAddr_ptr fo69_0 rfl) rfl ?_
      refine Y (Yields.load_ptr_field (j := 2) kd46 rfl rfl rfl rfl rfl rfl rfl) rfl ?_
      refine AOps.step (DStep.buildRo sl27 z9 rfl rfl rfl rfl) rfl ?_
      refine AOps.callH (.inl trivial) (one_AH b code q0 24 op2L hc (by omega) (by decide) (by decide)) rfl rfl rfl (WkL.refl _) ?_
      rintro _ _ ⟨sa, q9, j1a, j2a, j3a, rfl, rfl⟩
      refine Y (mv rfl) rfl ?_
      refine Y (mv rfl) rfl ?_
      refine Y (mv rfl) rfl ?_
      refine Y (bn rfl rfl (BinR.subI (by omega) (by omega)) rfl) rfl ?_
      refine AOps.leads (Leads.pull 2 rfl) ?_
      refine AOps.leads (Leads.pull 1 rfl) ?_
      refine AOps.callH (.inl trivial) (ih ⟨#[98, 111, 111, 108]⟩ bs q9 left (deep - 1) (typP_bool) (by omega) (hbs2) (by omega) (by omega) (by omega) (by omega) (by omega)) rfl rfl rfl (WkL.refl _) ?_
      rintro _ _ ⟨⟨vk1, vn1, vt1, vks1⟩, q1, lf1, u11, u12, u13, u14, u15, u16, rfl, rfl⟩
      refine Y (mv rfl) rfl ?_
      refine Y (mv rfl) rfl ?_
      refine Y (mv rfl) rfl ?_
      refine Y (bn rfl rfl (BinR.subI (by omega) (by omega)) rfl) rfl ?_
      refine AOps.leads (Leads.pull 1 rfl) ?_
      refine AOps.leads (Leads.pull 1 rfl) ?_
      refine AOps.callH (.inl trivial) (ih ⟨#[98, 111, 111, 108]⟩ bs q1 lf1 (deep - 1) (typP_bool) (by omega) (hbs2) (by omega) (by omega) (by omega) (by omega) (by omega)) rfl rfl rfl (WkL.refl _) ?_
      rintro _ _ ⟨⟨vk2, vn2, vt2, vks2⟩, q2, lf2, u21, u22, u23, u24, u25, u26, rfl, rfl⟩
      refine AOps.step (DStep.buildRo sl23 z25 rfl rfl rfl rfl) rfl ?_
      refine Y (Yields.build pl25 z25 rfl rfl) rfl ?_
      refine AOps.store (j := 2) kd25 rfl rfl rfl rfl rfl rfl ?_
      refine AOps.nil ?_
      refine AWP.ret ⟨.inl rfl, ?_⟩
      exact RetH.of (rs := [.cell 8 25]) (vs := [_]) rfl ⟨resOne.cell (j := 2) rfl rfl kd25 rfl rfl rfl, trivial⟩ (KeepR.cons 0 rfl (KeepR.cons 0 rfl KeepR.nil)) (⟨.mk 9 0 sa [.mk vk1 vn1 vt1 vks1, .mk vk2 vn2 vt2 vks2], q2, lf2, bnd2 (by omega) u11 u21, by rw [size2]; omega, by omega, by omega, by omega, by omega, rfl, rfl⟩)
     ·
      replace c4 := ne_of_beq_false c4
      refine AWP.skip ?_
      refine AWP.seq ?_
      refine AWP.region ?_
      refine Y (mv rfl) rfl ?_
      refine Y (Yields.nilCheck_ptr rfl) rfl ?_
      refine Y (Yields.fieldAddr_ptr fo69_0 rfl) rfl ?_
      refine Y (Yields.load_ptr_field (j := 2) kd46 rfl rfl rfl rfl rfl rfl rfl) rfl ?_
      refine AOps.step (DStep.buildRo sl27 z9 rfl rfl rfl rfl) rfl ?_
      refine AOps.callH (.inl trivial) (one_AH b code q0 24 op3L hc (by omega) (by decide) (by decide)) rfl rfl rfl (WkL.refl _) ?_
      rintro _ _ ⟨sa, q9, j1a, j2a, j3a, rfl, rfl⟩
      refine Y (mv rfl) rfl ?_
      refine Y (mv rfl) rfl ?_
      refine Y (mv rfl) rfl ?_
      refine Y (bn rfl rfl (BinR.subI (by omega) (by omega)) rfl) rfl ?_
      refine AOps.leads (Leads.pull 2 rfl) ?_
      refine AOps.leads (Leads.pull 1 rfl) ?_
      refine AOps.callH (.inl trivial) (ih ⟨#[105, 110, 116]⟩ bs q9 left (deep - 1) (typP_int) (by omega) (hbs2) (by omega) (by omega) (by omega) (by omega) (by omega)) rfl rfl rfl (WkL.refl _) ?_
      rintro _ _ ⟨⟨vk1, vn1, vt1, vks1⟩, q1, lf1, u11, u12, u13, u14, u15, u16, rfl, rfl⟩
      refine Y (mv rfl) rfl ?_
      refine Y (mv rfl) rfl ?_
      refine Y (mv rfl) rfl ?_
      refine Y (bn rfl rfl (BinR.subI (by omega) (by omega)) rfl) rfl ?_
      refine AOps.leads (Leads.pull 1 rfl) ?_
      refine AOps.leads (Leads.pull 1 rfl) ?_
      refine AOps.callH (.inl trivial) (ih ⟨#[105, 110, 116]⟩ bs q1 lf1 (deep - 1) (typP_int) (by omega) (hbs2) (by omega) (by omega) (by omega) (by omega) (by omega)) rfl rfl rfl (WkL.refl _) ?_
      rintro _ _ ⟨⟨vk2, vn2, vt2, vks2⟩, q2, lf2, u21, u22, u23, u24, u25, u26, rfl, rfl⟩
      refine AOps.step (DStep.buildRo sl23 z25 rfl rfl rfl rfl) rfl ?_
      refine Y (Yields.build pl25 z25 rfl rfl) rfl ?_
      refine AOps.store (j := 2) kd25 rfl rfl rfl rfl rfl rfl ?_
      refine AOps.nil ?_
      refine AWP.ret ⟨.inl rfl, ?_⟩
      exact RetH.of (rs := [.cell 8 25]) (vs := [_]) rfl ⟨resOne.cell (j := 2) rfl rfl kd25 rfl rfl rfl, trivial⟩ (KeepR.cons 0 rfl (KeepR.cons 0 rfl KeepR.nil)) (⟨.mk 9 0 sa [.mk vk1 vn1 vt1 vks1, .mk vk2 vn2 vt2 vks2], q2, lf2, bnd2 (by omega) u11 u21, by rw [size2]; omega, by omega, by omega, by omega, by omega, rfl, rfl⟩)
   ·
    replace c2 := of_decide_eq_false c2
    refine AWP.seq ?_
    refine AWP.region ?_
    refine Y (bn rfl rfl BinR.seql rfl) rfl ?_
    refine Y (ass rfl) rfl ?_
    refine AOps.nil ?_
    refine AWP.condT rfl (fun c5 => ?_) (fun c5 => ?_)
    ·
     replace c5 := of_decide_eq_true c5
     refine AWP.seq ?_
     refine AWP.region ?_
     refine Y (mv rfl) rfl ?_
     refine Y (mv rfl) rfl ?_
     refine Y (mv rfl) rfl ?_
     refine Y (bn rfl rfl (BinR.subI (by omega) (by omega)) rfl) rfl ?_
     refine AOps.leads (Leads.pull 2 rfl) ?_
     refine AOps.leads (Leads.pull 2 rfl) ?_
     refine AOps.callH (.inl trivial) (ih ⟨#[116, 101, 120, 116]⟩ bs p left (deep - 1) (typP_text) (by omega) (hbs2) (by omega) (by omega) (by omega) (by omega) (by omega)) rfl rfl rfl (WkL.refl _) ?_
     rintro _ _ ⟨⟨vk1, vn1, vt1, vks1⟩, q1, lf1, u11, u12, u13, u14, u15, u16, rfl, rfl⟩
     refine Y (mv rfl) rfl ?_
     refine Y (mv rfl) rfl ?_
     refine Y (mv rfl) rfl ?_
     refine Y (bn rfl rfl (BinR.subI (by omega) (by omega)) rfl) rfl ?_
     refine AOps.leads (Leads.pull 1 rfl) ?_
     refine AOps.leads (Leads.pull 1 rfl) ?_
     refine AOps.callH (.inl trivial) (ih ⟨#[116, 101, 120, 116]⟩ bs q1 lf1 (deep - 1) (typP_text) (by omega) (hbs2) (by omega) (by omega) (by omega) (by omega) (by omega)) rfl rfl rfl (WkL.refl _) ?_
     rintro _ _ ⟨⟨vk2, vn2, vt2, vks2⟩, q2, lf2, u21, u22, u23, u24, u25, u26, rfl, rfl⟩
     refine AOps.step (DStep.buildRo sl23 z25 rfl rfl rfl rfl) rfl ?_
     refine Y (Yields.build pl25 z25 rfl rfl) rfl ?_
     refine AOps.store (j := 2) kd25 rfl rfl rfl rfl rfl rfl ?_
     refine AOps.nil ?_
     refine AWP.ret ⟨.inl rfl, ?_⟩
     exact RetH.of (rs := [.cell 8 25]) (vs := [_]) rfl ⟨resOne.cell (j := 2) rfl rfl kd25 rfl rfl rfl, trivial⟩ (KeepR.cons 0 rfl (KeepR.cons 0 rfl KeepR.nil)) (⟨.mk 9 0 ⟨#[43]⟩ [.mk vk1 vn1 vt1 vks1, .mk vk2 vn2 vt2 vks2], q2, lf2, bnd2 (by decide) u11 u21, by rw [size2]; omega, by omega, by omega, by omega, by omega, rfl, rfl⟩)
    ·
     replace c5 := of_decide_eq_false c5
     obtain ⟨hit1, hit2⟩ := typP_item ht c0 c2 c5
     have hits := typP_size hit2
     refine AWP.skip ?_
     refine AWP.seq ?_
     refine AWP.seq ?_
     refine AWP.region ?_
     refine Y (mv rfl) rfl ?_
     refine AOps.callro (sTypeItem_AF t (by omega)) rfl rfl rfl ?_
     refine Y (mv rfl) rfl ?_
     refine Y (Yields.extract rfl rfl) rfl ?_
     refine Y (Yields.extract rfl rfl) rfl ?_
     refine Y (ass rfl) rfl ?_
     refine Y (ass rfl) rfl ?_
     refine AOps.nil ?_
     refine AWP.seq ?_
     refine AWP.region ?_
     refine Y (mv rfl) rfl ?_
     refine AOps.nil ?_
     refine AWP.condT rfl (fun c6 => ?_) (fun c6 => ?_)
     ·
      skip
      refine AWP.seq ?_
      refine AWP.seq ?_
      refine AWP.region ?_
      refine Y (mv rfl) rfl ?_
      refine Y (Yields.nilCheck_ptr rfl) rfl ?_
      refine Y (Yields.fieldAddr_ptr fo69_0 rfl) rfl ?_
      refine Y (Yields.load_ptr_field (j := 2) kd46 rfl rfl rfl rfl rfl rfl rfl) rfl ?_
      refine AOps.leads (Leads.pull 1 rfl) ?_
      refine AOps.callH (.inl trivial) (pick_AH b code p 3 hc (by omega) (by omega) (by omega)) rfl rfl rfl (WkL.refl _) ?_
      rintro _ _ ⟨m0, q0, g1, g2, g3, g4, rfl, rfl⟩
      refine Y (bn rfl rfl BinR.eql rfl) rfl ?_
      refine AOps.nil ?_
      refine AWP.condT rfl (fun c7 => ?_) (fun c7 => ?_)
      ·
       replace c7 := eq_of_beq c7
       refine AWP.seq ?_
       refine AWP.region ?_
       refine Y (mv rfl) rfl ?_
       refine Y (Yields.build pl25 z25 rfl rfl) rfl ?_
       refine AOps.alloc rfl z25 rfl rfl fun b11 => ?_
       refine AOps.store (j := 0) kd25 rfl rfl rfl rfl rfl rfl ?_
       refine AOps.nil ?_
       refine AWP.seq ?_
       refine AWP.seq ?_
       refine AWP.region ?_
       refine Y (mv rfl) rfl ?_
       refine Y (Yields.nilCheck_ptr rfl) rfl ?_
       refine Y (Yields.fieldAddr_ptr fo69_0 rfl) rfl ?_
       refine Y (Yields.load_ptr_field (j := 3) kd46 rfl rfl rfl rfl rfl rfl rfl) rfl ?_
       refine AOps.leads (Leads.pull 1 rfl) ?_
       refine AOps.callH (.inl trivial) (pick_AH b code q0 3 hc (by omega) (by omega) (by omega)) rfl rfl rfl (WkL.refl _) ?_
       rintro _ _ ⟨m1, q1, k1, k2, k3, k4, rfl, rfl⟩
       refine Y (ass rfl) rfl ?_
       refine AOps.nil ?_
       refine AWP.leads (Leads.rowWk 1 0 rfl rfl (Wk.agg (ps := [_, _, _, .loc none 0 0 0 4]) ⟨Wk.refl _, Wk.refl _, Wk.refl _, Wk.nilLoc (n := 4), trivial⟩)) ?_
       refine AWP.leads (Leads.row0 4) ?_
       refine AWP.block ?_
       refine AWP.loopV (α := Option Nat × List Tr × Nat × Int × Int) (fun pp : Option Nat × List Tr × Nat × Int × Int => match pp with | (B, l, q, k, lf) => ⟨[(0, .ptr (some m) 0 0 5), (2, .ro 2 (bindsV bs) [] false), (3, int deep), (8, .ptr (some b8) 0 0 4), (9, str (itemOf t)), (11, .ptr (some b11) 0 0 4), (12, int k)], [src b code q, mkR b m lf calm, (some b11, ⟨4, [.agg [int 7, int 0, str (itemOf t), .loc B 0 l.length l.length 4]]⟩), (B, ⟨4, Tr.avs l⟩), (some b8, ⟨4, [zero4]⟩)]⟩) (fun pp : Option Nat × List Tr × Nat × Int × Int => match pp with | (B, l, q, k, lf) => 0 ≤ k ∧ l.length + k ≤ 2 ∧ Tr.bnds 1000000 l ∧ sizeTs l ≤ l.length * capM e ∧ p ≤ q ∧ q ≤ p + 4 + l.length * capM e ∧ left - l.length * capM e ≤ lf ∧ lf ≤ left) (fun pp : Option Nat × List Tr × Nat × Int × Int => match pp with | (B, l, q, k, lf) => k.toNat) ((none, [], q1, m1, left)) ?_ ?_ ?_
       · exact Leads.keepR (KeepR.cons 1 rfl (KeepR.cons 3 rfl (KeepR.cons 1 rfl (KeepR.cons 0 rfl (KeepR.cons 0 rfl KeepR.nil))))) ⟨rfl, rfl, rfl, rfl, rfl, rfl, rfl, trivial⟩
       ·
        show 0 ≤ m1 ∧ ([]).length + m1 ≤ 2 ∧ Tr.bnds 1000000 ([]) ∧ sizeTs ([]) ≤ ([]).length * capM e ∧ p ≤ q1 ∧ q1 ≤ p + 4 + ([]).length * capM e ∧ left - ([]).length * capM e ≤ left ∧ left ≤ left
        exact ⟨k1, by simp; omega, trivial, by simp [sizeTs], by omega, by simp; omega, by simp, by omega⟩
       ·
        rintro ⟨B, l, q, k, lf⟩ hinv
        replace hinv : 0 ≤ k ∧ l.length + k ≤ 2 ∧ Tr.bnds 1000000 l ∧ sizeTs l ≤ l.length * capM e ∧ p ≤ q ∧ q ≤ p + 4 + l.length * capM e ∧ left - l.length * capM e ≤ lf ∧ lf ≤ left := hinv
        show AWP _ _ _ _ ⟨[(0, .ptr (some m) 0 0 5), (2, .ro 2 (bindsV bs) [] false), (3, int deep), (8, .ptr (some b8) 0 0 4), (9, str (itemOf t)), (11, .ptr (some b11) 0 0 4), (12, int k)], [src b code q, mkR b m lf calm, (some b11, ⟨4, [.agg [int 7, int 0, str (itemOf t), .loc B 0 l.length l.length 4]]⟩), (B, ⟨4, Tr.avs l⟩), (some b8, ⟨4, [zero4]⟩)]⟩
        refine AWP.seq ?_
        refine AWP.seq ?_
        refine AWP.region ?_
        obtain ⟨hn, hln, hlb, hls, hq1, hq2, hf1, hf2⟩ := hinv
        refine Y (mv rfl) rfl ?_
        refine Y (bn rfl rfl BinR.gtr rfl) rfl ?_
        refine AOps.nil ?_
        refine AWP.condT rfl (fun c8 => ?_) (fun c8 => ?_)
        ·
         replace c8 := of_decide_eq_true c8
         have hlc1 : l.length * capM e ≤ 1 * capM e := Nat.mul_le_mul_right _ (by omega)
         have hlf1 : (l.length : Int) * capM e ≤ 1 * capM e := Int.mul_le_mul_of_nonneg_right (by omega) (by omega)
         refine AWP.skip ?_
         refine AWP.seq ?_
         refine AWP.block ?_
         refine AWP.prune (tm' := [(0, _), (2, _), (3, _), (8, _), (9, _), (11, _), (12, _), (144, _)]) ⟨rfl, rfl, rfl, rfl, rfl, rfl, rfl, rfl, trivial⟩ ?_
         refine AWP.drawnM [] [.pure 0, .pure 1, .pure 2, .pure 3, .pure 4, .pure 5, .pure 6, .spine 7 [] [2, 3, 4, 5, 6], .pure 8, .spine 9 [8] [0, 1, 2, 3, 4, 5, 6, 7, 8], .pure 10, .spine 11 [] [0, 1, 2, 3, 4, 5, 6, 7, 8, 9, 10]] mixed rfl rfl rfl rfl rfl ?_
         refine DM.pure (GX (tm' := [(11, _)]) rfl ⟨rfl, trivial⟩ rfl (DStep.yields (Yields.fieldAddr_ptr fo25_3 rfl)) rfl) ?_
         refine DM.pure (GX (tm' := [(147, _)]) rfl ⟨rfl, trivial⟩ rfl (DStep.yields (Yields.load_ptr_field (j := 2) kd23 rfl rfl rfl rfl rfl rfl rfl)) rfl) ?_
         refine DM.pure (GX (tm' := [(0, _)]) rfl ⟨rfl, trivial⟩ rfl (DStep.yields (mv rfl)) rfl) ?_
         refine DM.pure (GX (tm' := [(9, _)]) rfl ⟨rfl, trivial⟩ rfl (DStep.yields (mv rfl)) rfl) ?_
         refine DM.pure (GX (tm' := [(2, _)]) rfl ⟨rfl, trivial⟩ rfl (DStep.yields (mv rfl)) rfl) ?_
         refine DM.pure (GX (tm' := [(3, _)]) rfl ⟨rfl, trivial⟩ rfl (DStep.yields (mv rfl)) rfl) ?_
         refine DM.pure (GX (tm' := [(152, _)]) rfl ⟨rfl, trivial⟩ rfl (DStep.yields (bn rfl rfl (BinR.subI (by omega) (by omega)) rfl)) rfl) ?_
         refine DM.sp rfl rfl ?_
         refine DOpen.nil fun _ _ _ => ?_
         refine AOps.subT (tm' := [(149, _), (150, _), (151, _), (153, _)]) ⟨rfl, rfl, rfl, rfl, trivial⟩ ?_
         refine AOps.leads (Leads.pull 1 rfl) ?_
         refine AOps.leads (Leads.pull 1 rfl) ?_
         refine AOps.callH (.inl trivial) (ih (itemOf t) bs q lf (deep - 1) hit2 (by omega) hbs2 (by omega) (by omega) (by omega) (by omega) (by omega)) rfl rfl rfl (WkL.refl _) ?_
         rintro _ _ ⟨⟨vk, vn, vt, vks⟩, q2, lf2, w1, w2, w3, w4, w5, w6, rfl, rfl⟩
         refine AOps.nil ?_
         refine SpK.mk rfl rfl ?_ ?_
         ·
          skip
          refine Stab.skip rfl ?_
          refine Stab.skip rfl ?_
          refine Stab.skip rfl ?_
          refine Stab.skip rfl ?_
          refine Stab.skip rfl ?_
          refine Stab.skip rfl ?_
          refine Stab.keep (GX (tm' := [(147, _)]) rfl ⟨rfl, trivial⟩ rfl (DStep.yields (Yields.load_ptr_field (j := 2) kd23 rfl rfl rfl rfl rfl rfl rfl)) rfl) ?_
          refine Stab.keep (GX (tm' := [(11, _)]) rfl ⟨rfl, trivial⟩ rfl (DStep.yields (Yields.fieldAddr_ptr fo25_3 rfl)) rfl) ?_
          exact trivial
         refine DM.pure (GXs (tm' := [(154, _)]) rfl ⟨rfl, trivial⟩ rfl rfl (DStepU.buildSlice sl23 z25 rfl rfl rfl rfl) rfl) ?_
         refine DM.sp rfl rfl ?_
         refine DOpen.own rfl fun Bs => ?_
         refine DOpen.nil fun _ _ _ => ?_
         refine AOps.subT (tm' := [(148, _), (155, _)]) ⟨rfl, rfl, trivial⟩ ?_
         refine AOps.appendE (j := 4) sl23 z25 rfl rfl rfl rfl rfl (Tr.avs_length l) rfl (src_row (j2 := 0) rfl rfl rfl) (show l.length + 1 = (l ++ [Tr.mk vk vn vt vks]).length by simp) (avs_snoc l (.mk vk vn vt vks)) (by simp; omega) (by simp; omega) fun Bn => ?_
         refine AOps.nil ?_
         refine SpK.mk rfl rfl (Stab.all rfl) ?_
         refine DM.pure (GX (tm' := [(11, _)]) rfl ⟨rfl, trivial⟩ rfl (DStep.yields (Yields.fieldAddr_ptr fo25_3 rfl)) rfl) ?_
         refine DM.sp rfl rfl ?_
         refine DOpen.nil fun _ _ _ => ?_
         refine AOps.subT (tm' := [(157, _), (156, _)]) ⟨rfl, rfl, trivial⟩ ?_
         refine AOps.storeField (j := 3) kd23 rfl rfl rfl rfl rfl rfl rfl ?_
         refine AOps.nil ?_
         refine SpK.mk0 (Stab.all rfl) ?_
         refine DM.nil ?_
         refine AWP.region ?_
         refine Y (mv rfl) rfl ?_
         refine Y (bn rfl rfl (BinR.subI (by omega) (by omega)) rfl) rfl ?_
         refine Y (ass rfl) rfl ?_
         refine AOps.nil ?_
         refine ⟨(Bn, l ++ [Tr.mk vk vn vt vks], q2, k - 1, lf2), ?_, ?_, ?_⟩
         ·
          show (k - 1).toNat < k.toNat
          omega
         ·
          show 0 ≤ (k - 1) ∧ (l ++ [Tr.mk vk vn vt vks]).length + (k - 1) ≤ 2 ∧ Tr.bnds 1000000 (l ++ [Tr.mk vk vn vt vks]) ∧ sizeTs (l ++ [Tr.mk vk vn vt vks]) ≤ (l ++ [Tr.mk vk vn vt vks]).length * capM e ∧ p ≤ q2 ∧ q2 ≤ p + 4 + (l ++ [Tr.mk vk vn vt vks]).length * capM e ∧ left - (l ++ [Tr.mk vk vn vt vks]).length * capM e ≤ lf2 ∧ lf2 ≤ left
          exact ⟨by omega, by simp; omega, bnds_snoc hlb w1, by rw [sizeTs_snoc, List.length_append, List.length_singleton, Int.natCast_add, Int.add_mul]; simp; omega, by omega, by rw [List.length_append, List.length_singleton, Nat.add_mul]; omega, by rw [List.length_append, List.length_singleton, Int.natCast_add, Int.add_mul]; simp; omega, by omega⟩
         · exact Leads.keepR (KeepR.cons 1 rfl (KeepR.cons 1 rfl (KeepR.cons 1 rfl (KeepR.cons 1 rfl (KeepR.cons 1 rfl KeepR.nil))))) ⟨rfl, rfl, rfl, rfl, rfl, rfl, rfl, trivial⟩
        ·
         replace c8 := of_decide_eq_false c8
         refine AWP.exit ?_
         refine AWP.seq ?_
         refine AWP.region ?_
         refine Y (Yields.load_ptr_agg (j := 2) kd25 rfl rfl rfl rfl) rfl ?_
         refine AOps.leads (Leads.pull 3 rfl) ?_
         refine AOps.leads (Leads.freezeT 1 158 (.inl trivial) rfl (fz_node rfl)) ?_
         have hls2 : (l.length : Int) * capM e ≤ 2 * capM e := Int.mul_le_mul_of_nonneg_right (by omega) (by omega)
         have hlc2 : l.length * capM e ≤ 2 * capM e := Nat.mul_le_mul_right _ (by omega)
         refine AOps.store (j := 3) kd25 rfl rfl rfl rfl rfl rfl ?_
         refine AOps.nil ?_
         refine AWP.ret ⟨.inl rfl, ?_⟩
         exact RetH.of (rs := [.cell 8 25]) (vs := [_]) rfl ⟨resOne.cell (j := 3) rfl rfl kd25 rfl rfl rfl, trivial⟩ (KeepR.cons 0 rfl (KeepR.cons 0 rfl KeepR.nil)) (⟨.mk 7 0 (itemOf t) l, q, lf, ⟨by omega, by omega, hlb⟩, by rw [sizeT]; omega, by omega, by omega, by omega, by omega, rfl, rfl⟩)
      ·
       replace c7 := ne_of_beq_false c7
       refine AWP.skip ?_
       refine AWP.seq ?_
       refine AWP.region ?_
       refine Y (mv rfl) rfl ?_
       refine Y (Yields.nilCheck_ptr rfl) rfl ?_
       refine Y (Yields.fieldAddr_ptr fo69_0 rfl) rfl ?_
       refine Y (Yields.load_ptr_field (j := 2) kd46 rfl rfl rfl rfl rfl rfl rfl) rfl ?_
       refine AOps.callH (.inl trivial) (local_AH b code q0 hc (by omega)) rfl rfl rfl (WkL.refl _) ?_
       rintro _ _ ⟨sn, q3, j1, j2, j3, rfl, rfl⟩
       refine Y (ass rfl) rfl ?_
       refine AOps.nil ?_
       refine AWP.seq ?_
       refine AWP.region ?_
       refine Y (mv rfl) rfl ?_
       refine Y (Yields.nilCheck_ptr rfl) rfl ?_
       refine Y (Yields.fieldAddr_ptr fo69_0 rfl) rfl ?_
       refine Y (Yields.load_ptr_field (j := 2) kd46 rfl rfl rfl rfl rfl rfl rfl) rfl ?_
       refine AOps.step (DStep.buildRo sl27 z9 rfl rfl rfl rfl) rfl ?_
       refine AOps.callH (.inl trivial) (oneP_AH overP b code q3 overL hc (by omega) (by decide) (by decide) overL_P) rfl rfl rfl (WkL.refl _) ?_
       rintro _ _ ⟨so, q4, j4, j5, j6, rfl, rfl⟩
       have hso := typP_size (overP_typ j4)
       refine Y (ass rfl) rfl ?_
       refine AOps.nil ?_
       refine AWP.seq ?_
       refine AWP.region ?_
       refine Y (mv rfl) rfl ?_
       refine AOps.callro (sTypeItem_AF so (by omega)) rfl rfl rfl ?_
       refine Y (mv rfl) rfl ?_
       refine Y (Yields.extract rfl rfl) rfl ?_
       refine Y (Yields.extract rfl rfl) rfl ?_
       refine Y (ass rfl) rfl ?_
       refine Y (ass rfl) rfl ?_
       refine AOps.nil ?_
       refine AWP.seq ?_
       refine AWP.region ?_
       refine Y (mv rfl) rfl ?_
       refine Y (mv rfl) rfl ?_
       refine Y (mv rfl) rfl ?_
       refine Y (mv rfl) rfl ?_
       refine Y (bn rfl rfl (BinR.subI (by omega) (by omega)) rfl) rfl ?_
       refine AOps.leads (Leads.pull 2 rfl) ?_
       refine AOps.leads (Leads.pull 1 rfl) ?_
       refine AOps.callH (.inl trivial) (ih so bs q4 left (deep - 1) (overP_typ j4) (by omega) (hbs2) (by omega) (by omega) (by omega) (by omega) (by omega)) rfl rfl rfl (WkL.refl _) ?_
       rintro _ _ ⟨⟨vk1, vn1, vt1, vks1⟩, q1, lf1, u11, u12, u13, u14, u15, u16, rfl, rfl⟩
       refine AOps.alloc rfl z25 rfl rfl fun b17 => ?_
       refine AOps.store (j := 0) kd25 rfl rfl rfl rfl rfl rfl ?_
       refine AOps.nil ?_
       refine AWP.seq ?_
       refine AWP.prune (tm' := [(0, _), (1, _), (2, _), (3, _), (8, _), (22, _), (23, _), (56, _), (110, _), (9, _), (10, _), (129, _), (135, _), (13, _), (14, _), (15, _), (17, _)]) ⟨rfl, rfl, rfl, rfl, rfl, rfl, rfl, rfl, rfl, rfl, rfl, rfl, rfl, rfl, rfl, rfl, rfl, trivial⟩ ?_
       refine AWP.drawnM [] [.pure 0, .pure 1, .pure 2, .pure 3, .pure 4, .pure 5, .pure 7, .pure 8, .pure 9, .pure 10, .pure 12, .pure 13, .spine 6 [4] [4, 5], .spine 11 [10] [4, 5, 6, 7, 8, 9, 10], .spine 14 [] [2, 3, 4, 5, 6, 7, 8, 9, 10, 11, 12, 13], .pure 15, .pure 16, .spine 17 [] [0, 1, 2, 3, 4, 5, 6, 7, 8, 9, 10, 11, 12, 13, 14, 15, 16]] mixed rfl rfl rfl rfl rfl ?_
       refine DM.pure (GX (tm' := [(13, _)]) rfl ⟨rfl, trivial⟩ rfl (DStep.yields (mv rfl)) rfl) ?_
       refine DM.pure (GX (tm' := [(17, _)]) rfl ⟨rfl, trivial⟩ rfl (DStep.yields (Yields.load_ptr_agg (j := 0) kd25 rfl rfl rfl rfl)) rfl) ?_
       refine DM.pure (GX (tm' := [(0, _)]) rfl ⟨rfl, trivial⟩ rfl (DStep.yields (mv rfl)) rfl) ?_
       refine DM.pure (GX (tm' := [(9, _)]) rfl ⟨rfl, trivial⟩ rfl (DStep.yields (mv rfl)) rfl) ?_
       refine DM.pure (GXs (tm' := []) rfl trivial rfl rfl (DStepU.buildSlice sl82 z89 rfl rfl rfl rfl) rfl) ?_
       refine DM.pure (GX (tm' := [(2, _)]) rfl ⟨rfl, trivial⟩ rfl (DStep.yields (mv rfl)) rfl) ?_
       refine DM.pure (GX (tm' := [(13, _)]) rfl ⟨rfl, trivial⟩ rfl (DStep.yields (mv rfl)) rfl) ?_
       refine DM.pure (GX (tm' := [(15, _)]) rfl ⟨rfl, trivial⟩ rfl (DStep.yields (mv rfl)) rfl) ?_
       refine DM.pure (GX (tm' := [(188, _), (189, _)]) rfl ⟨rfl, rfl, trivial⟩ rfl (DStep.yields (Yields.build pl89 z89 rfl rfl)) rfl) ?_
       refine DM.pure (GXs (tm' := [(190, _)]) rfl ⟨rfl, trivial⟩ rfl rfl (DStepU.buildSlice sl82 z89 rfl rfl rfl rfl) rfl) ?_
       refine DM.pure (GX (tm' := [(3, _)]) rfl ⟨rfl, trivial⟩ rfl (DStep.yields (mv rfl)) rfl) ?_
       refine DM.pure (GX (tm' := [(193, _)]) rfl ⟨rfl, trivial⟩ rfl (DStep.yields (bn rfl rfl (BinR.subI (by omega) (by omega)) rfl)) rfl) ?_
       refine DM.sp rfl rfl ?_
       refine DOpen.own rfl fun Bl => ?_
       refine DOpen.nil fun _ _ _ => ?_
       refine AOps.subT (tm' := [(185, _), (186, _)]) ⟨rfl, rfl, trivial⟩ ?_
       refine AOps.appendE (j := 0) sl82 z89 rfl rfl rfl rfl rfl rfl rfl (src_ro rfl) (show 0 + (bindsV bs).length = bs.length by rw [bindsV_length]; omega) (List.nil_append _) (by omega) (by omega) fun Bm => ?_
       refine AOps.nil ?_
       refine SpK.mk rfl rfl ?_ ?_
       ·
        skip
        refine Stab.skip rfl ?_
        refine Stab.keep (GX (tm' := [(193, _)]) rfl ⟨rfl, trivial⟩ rfl (DStep.yields (bn rfl rfl (BinR.subI (by omega) (by omega)) rfl)) rfl) ?_
        refine Stab.keep (GX (tm' := [(3, _)]) rfl ⟨rfl, trivial⟩ rfl (DStep.yields (mv rfl)) rfl) ?_
        refine Stab.keep (GXs (tm' := [(190, _)]) rfl ⟨rfl, trivial⟩ rfl rfl (DStepU.buildSlice sl82 z89 rfl rfl rfl rfl) rfl) ?_
        refine Stab.keep (GX (tm' := [(188, _), (189, _)]) rfl ⟨rfl, rfl, trivial⟩ rfl (DStep.yields (Yields.build pl89 z89 rfl rfl)) rfl) ?_
        refine Stab.keep (GX (tm' := [(15, _)]) rfl ⟨rfl, trivial⟩ rfl (DStep.yields (mv rfl)) rfl) ?_
        refine Stab.keep (GX (tm' := [(13, _)]) rfl ⟨rfl, trivial⟩ rfl (DStep.yields (mv rfl)) rfl) ?_
        refine Stab.skip rfl ?_
        refine Stab.skip rfl ?_
        refine Stab.keep (GX (tm' := [(9, _)]) rfl ⟨rfl, trivial⟩ rfl (DStep.yields (mv rfl)) rfl) ?_
        refine Stab.keep (GX (tm' := [(0, _)]) rfl ⟨rfl, trivial⟩ rfl (DStep.yields (mv rfl)) rfl) ?_
        refine Stab.keep (GX (tm' := [(17, _)]) rfl ⟨rfl, trivial⟩ rfl (DStep.yields (Yields.load_ptr_agg (j := 1) kd25 rfl rfl rfl rfl)) rfl) ?_
        refine Stab.keep (GX (tm' := [(13, _)]) rfl ⟨rfl, trivial⟩ rfl (DStep.yields (mv rfl)) rfl) ?_
        exact trivial
       refine DM.sp rfl rfl ?_
       refine DOpen.own rfl fun Bk => ?_
       refine DOpen.nil fun _ _ _ => ?_
       refine AOps.subT (tm' := [(187, _), (191, _)]) ⟨rfl, rfl, trivial⟩ ?_
       refine AOps.appendE (j := 1) sl82 z89 rfl rfl rfl rfl rfl (bindsV_length bs) rfl (src_row (j2 := 0) rfl rfl rfl) (show bs.length + 1 = (bs ++ [(sn, itemOf so)]).length by simp) (binds_app bs (sn, itemOf so)) (by simp; omega) (by simp; omega) fun Bn => ?_
       refine AOps.nil ?_
       refine SpK.mk rfl rfl ?_ ?_
       ·
        skip
        refine Stab.skip rfl ?_
        refine Stab.skip rfl ?_
        refine Stab.keep (GX (tm' := [(193, _)]) rfl ⟨rfl, trivial⟩ rfl (DStep.yields (bn rfl rfl (BinR.subI (by omega) (by omega)) rfl)) rfl) ?_
        refine Stab.keep (GX (tm' := [(3, _)]) rfl ⟨rfl, trivial⟩ rfl (DStep.yields (mv rfl)) rfl) ?_
        refine Stab.skip rfl ?_
        refine Stab.skip rfl ?_
        refine Stab.skip rfl ?_
        refine Stab.skip rfl ?_
        refine Stab.skip rfl ?_
        refine Stab.skip rfl ?_
        refine Stab.keep (GX (tm' := [(9, _)]) rfl ⟨rfl, trivial⟩ rfl (DStep.yields (mv rfl)) rfl) ?_
        refine Stab.keep (GX (tm' := [(0, _)]) rfl ⟨rfl, trivial⟩ rfl (DStep.yields (mv rfl)) rfl) ?_
        refine Stab.keep (GX (tm' := [(17, _)]) rfl ⟨rfl, trivial⟩ rfl (DStep.yields (Yields.load_ptr_agg (j := 2) kd25 rfl rfl rfl rfl)) rfl) ?_
        refine Stab.keep (GX (tm' := [(13, _)]) rfl ⟨rfl, trivial⟩ rfl (DStep.yields (mv rfl)) rfl) ?_
        exact trivial
       refine DM.sp rfl rfl ?_
       refine DOpen.nil fun _ _ _ => ?_
       refine AOps.subT (tm' := [(183, _), (184, _), (192, _), (194, _)]) ⟨rfl, rfl, rfl, rfl, trivial⟩ ?_
       refine AOps.leads (Leads.pull 1 rfl) ?_
       refine AOps.leads (Leads.freezeT 1 192 (.inl trivial) rfl (fz_binds rfl)) ?_
       refine AOps.leads (Leads.pull 3 rfl) ?_
       refine AOps.leads (Leads.pull 3 rfl) ?_
       refine AOps.callH (.inl trivial) (ih (itemOf t) (bs ++ [(sn, itemOf so)]) q1 lf1 (deep - 1) hit2 (by simp; omega) (binds_short hbs2 j1) (by omega) (by omega) (by omega) (by omega) (by omega)) rfl rfl rfl (WkL.refl _) ?_
       rintro _ _ ⟨⟨vk2, vn2, vt2, vks2⟩, q2, lf2, u21, u22, u23, u24, u25, u26, rfl, rfl⟩
       refine AOps.nil ?_
       refine SpK.mk rfl rfl ?_ ?_
       ·
        skip
        refine Stab.skip rfl ?_
        refine Stab.skip rfl ?_
        refine Stab.skip rfl ?_
        refine Stab.skip rfl ?_
        refine Stab.skip rfl ?_
        refine Stab.skip rfl ?_
        refine Stab.skip rfl ?_
        refine Stab.skip rfl ?_
        refine Stab.skip rfl ?_
        refine Stab.skip rfl ?_
        refine Stab.skip rfl ?_
        refine Stab.skip rfl ?_
        refine Stab.skip rfl ?_
        refine Stab.keep (GX (tm' := [(17, _)]) rfl ⟨rfl, trivial⟩ rfl (DStep.yields (Yields.load_ptr_agg (j := 3) kd25 rfl rfl rfl rfl)) rfl) ?_
        refine Stab.keep (GX (tm' := [(13, _)]) rfl ⟨rfl, trivial⟩ rfl (DStep.yields (mv rfl)) rfl) ?_
        exact trivial
       refine DM.pure (GX (tm' := [(182, _), (195, _)]) rfl ⟨rfl, rfl, trivial⟩ rfl (DStep.buildRo sl23 z25 rfl rfl rfl rfl) rfl) ?_
       refine DM.pure (GX (tm' := [(181, _), (196, _)]) rfl ⟨rfl, rfl, trivial⟩ rfl (DStep.yields (Yields.build pl25 z25 rfl rfl)) rfl) ?_
       refine DM.sp rfl rfl ?_
       refine DOpen.nil fun _ _ _ => ?_
       refine AOps.subT (tm' := [(8, _), (197, _)]) ⟨rfl, rfl, trivial⟩ ?_
       refine AOps.store (j := 4) kd25 rfl rfl rfl rfl rfl rfl ?_
       refine AOps.nil ?_
       refine SpK.mk0 (Stab.all rfl) ?_
       refine DM.nil ?_
       refine AWP.ret ⟨.inl rfl, ?_⟩
       exact RetH.of (rs := [.cell 8 25]) (vs := [_]) rfl ⟨resOne.cell (j := 4) rfl rfl kd25 rfl rfl rfl, trivial⟩ (KeepR.cons 0 rfl (KeepR.cons 0 rfl KeepR.nil)) (⟨.mk 12 0 sn [.mk vk1 vn1 vt1 vks1, .mk vk2 vn2 vt2 vks2], q2, lf2, bnd2 (by omega) u11 u21, by rw [size2]; omega, by omega, by omega, by omega, by omega, rfl, rfl⟩)
     ·
      skip
      rw [hit1] at c6; cases c6
theorem capM_plain : ∀ n, 174 ≤ capM n
  | 0 => by decide
  | n + 1 => by have := capM_plain n; rw [capM]; omega
theorem capP4 : capP 4 = 154 := by decide
theorem makeW_AH (n b m : Nat) (code : List UInt8) (calm : Bool) (hc : code.length ≤ 1048576) (ih : ∀ e, n = e + 1 → MakeOk e b m code calm) : MakeOk n b m code calm := by
  intro t bs p left deep ht hbs hbs2 hd hd2 hp hl hl2
  have hcp := capM_plain n
  have hc4 := capP4
  have hts := typP_size ht
  refine AH.intro Tryz.func63 nm63 rfl rfl rfl fun w0 ok0 own0 => ?_
  refine AWP.seq ?_
  refine AWP.region ?_
  refine AOps.alloc rfl z25 rfl rfl fun b8 => ?_
  refine AOps.nil ?_
  refine AWP.seq ?_
  refine AWP.region ?_
  refine Y (mv rfl) rfl ?_
  refine Y (mv rfl) rfl ?_
  refine Y (Yields.nilCheck_ptr rfl) rfl ?_
  refine Y (Yields.fieldAddr_ptr fo69_3 rfl) rfl ?_
  refine Y (Yields.load_ptr_field (j := 2) kd3 rfl rfl rfl rfl rfl rfl rfl) rfl ?_
  refine Y (bn rfl rfl (BinR.subI (by omega) (by omega)) rfl) rfl ?_
  refine Y (Yields.nilCheck_ptr rfl) rfl ?_
  refine Y (Yields.fieldAddr_ptr fo69_3 rfl) rfl ?_
  refine AOps.storeField (j := 2) kd3 rfl rfl rfl rfl rfl rfl rfl ?_
  refine AOps.nil ?_
  refine AWP.seq ?_
  refine AWP.region ?_
  refine Y (mv rfl) rfl ?_
  refine Y (mv rfl) rfl ?_
  refine AOps.callH (.inl trivial) (having_AH bs t (by omega) hbs2) rfl rfl rfl (WkL.refl _) ?_
  rintro _ _ ⟨Bh, ln, hl1, hls, rfl, rfl⟩
  refine Y (ass rfl) rfl ?_
  refine AOps.nil ?_
  refine AWP.midE (α := Nat) (fun q0 : Nat => ⟨[(0, .ptr (some m) 0 0 5), (1, str t), (2, .ro 2 (bindsV bs) [] false), (3, int deep), (8, .ptr (some b8) 0 0 4)], [src b code q0, mkR b m (left - 1) calm, (some b8, ⟨4, [zero4]⟩)]⟩) (fun q0 : Nat => p ≤ q0 ∧ q0 ≤ p + 2) ?_ ?_
  ·
   skip
   refine AWP.seq ?_
   refine AWP.region ?_
   refine Y (mv rfl) rfl ?_
   refine Y (Yields.len_loc sl27 rfl) rfl ?_
   refine Y (bn rfl rfl BinR.gtr rfl) rfl ?_
   refine Y (mv rfl) rfl ?_
   refine AOps.split 30 rfl (fun g1 => ?_) (fun g1 => ?_)
   ·
    replace g1 := of_decide_eq_true g1
    refine AOps.on rfl rfl ?_
    refine Y (mv rfl) rfl ?_
    refine AOps.on rfl rfl ?_
    refine Y (Yields.nilCheck_ptr rfl) rfl ?_
    refine AOps.on rfl rfl ?_
    refine Y (Yields.fieldAddr_ptr fo69_3 rfl) rfl ?_
    refine AOps.on rfl rfl ?_
    refine Y (Yields.load_ptr_field (j := 3) kd3 rfl rfl rfl rfl rfl rfl rfl) rfl ?_
    refine AOps.on rfl rfl ?_
    refine Y (bn rfl rfl BinR.lss rfl) rfl ?_
    refine AOps.on rfl rfl ?_
    refine Y (mv rfl) rfl ?_
    refine AOps.split 36 rfl (fun g2 => ?_) (fun g2 => ?_)
    ·
     replace g2 := of_decide_eq_true g2
     refine AOps.off' rfl rfl rfl rfl ?_
     refine AOps.off' rfl rfl rfl rfl ?_
     refine AOps.on rfl rfl ?_
     refine Y (Yields.pick_true rfl rfl) rfl ?_
     refine AOps.on rfl rfl ?_
     refine Y (mv rfl) rfl ?_
     refine AOps.off' rfl rfl rfl rfl ?_
     refine AOps.off' rfl rfl rfl rfl ?_
     refine AOps.off' rfl rfl rfl rfl ?_
     refine AOps.off' rfl rfl rfl rfl ?_
     refine AOps.off' rfl rfl rfl rfl ?_
     refine AOps.off' rfl rfl rfl rfl ?_
     refine AOps.on rfl rfl ?_
     refine Y (Yields.pick_true rfl rfl) rfl ?_
     refine Y (Yields.pick_true rfl rfl) rfl ?_
     refine AOps.nil ?_
     refine AWP.cond rfl (fun _ => ?_) (fun h => absurd h (by decide))
     refine AWP.seq ?_
     refine AWP.region ?_
     refine Y (mv rfl) rfl ?_
     refine Y (Yields.nilCheck_ptr rfl) rfl ?_
     refine Y (Yields.fieldAddr_ptr fo69_0 rfl) rfl ?_
     refine Y (Yields.load_ptr_field (j := 3) kd46 rfl rfl rfl rfl rfl rfl rfl) rfl ?_
     refine Y (mv rfl) rfl ?_
     refine AOps.leads (Leads.freezeT 1 53 (.inl trivial) rfl (ownS.fz ⟨_, rfl, rfl⟩)) ?_
     refine AOps.leads (Leads.pull 1 rfl) ?_
     refine AOps.callH (.inl trivial) (one_AH b code p 24 ln hc (by omega) (by omega) hls) rfl rfl rfl (WkL.refl _) ?_
     rintro _ _ ⟨sa, q9, j1, j2, j3, rfl, rfl⟩
     refine Y (Yields.build pl25 z25 rfl rfl) rfl ?_
     refine AOps.store (j := 1) kd25 rfl rfl rfl rfl rfl rfl ?_
     refine AOps.nil ?_
     refine AWP.leads (Leads.rowWk 1 0 rfl rfl (wk_leaf _ _ _)) ?_
     refine AWP.ret ⟨.inl rfl, ?_⟩
     exact RetH.of (rs := [.cell 8 25]) (vs := [_]) rfl ⟨resOne.cell (j := 1) rfl rfl kd25 rfl rfl rfl, trivial⟩ (KeepR.cons 0 rfl (KeepR.cons 1 rfl KeepR.nil)) (⟨.mk 3 0 sa [], q9, left - 1, leaf_bnd _ _ _ (by omega), leaf_size' _ _ _ _ (by omega), by omega, by omega, by omega, by omega, rfl, rfl⟩)
    ·
     replace g2 := of_decide_eq_false g2
     refine AOps.on rfl rfl ?_
     refine Y (mv rfl) rfl ?_
     refine AOps.on rfl rfl ?_
     refine Y (bn rfl rfl BinR.lss rfl) rfl ?_
     refine AOps.on rfl rfl ?_
     refine Y (Yields.pick_false rfl rfl) rfl ?_
     refine AOps.on rfl rfl ?_
     refine Y (mv rfl) rfl ?_
     refine AOps.split 40 rfl (fun g3 => ?_) (fun g3 => ?_)
     ·
      replace g3 := of_decide_eq_true g3
      refine AOps.off' rfl rfl rfl rfl ?_
      refine AOps.off' rfl rfl rfl rfl ?_
      refine AOps.off' rfl rfl rfl rfl ?_
      refine AOps.off' rfl rfl rfl rfl ?_
      refine AOps.off' rfl rfl rfl rfl ?_
      refine AOps.off' rfl rfl rfl rfl ?_
      refine AOps.on rfl rfl ?_
      refine Y (Yields.pick_true rfl rfl) rfl ?_
      refine Y (Yields.pick_true rfl rfl) rfl ?_
      refine AOps.nil ?_
      refine AWP.cond rfl (fun _ => ?_) (fun h => absurd h (by decide))
      refine AWP.seq ?_
      refine AWP.region ?_
      refine Y (mv rfl) rfl ?_
      refine Y (Yields.nilCheck_ptr rfl) rfl ?_
      refine Y (Yields.fieldAddr_ptr fo69_0 rfl) rfl ?_
      refine Y (Yields.load_ptr_field (j := 3) kd46 rfl rfl rfl rfl rfl rfl rfl) rfl ?_
      refine Y (mv rfl) rfl ?_
      refine AOps.leads (Leads.freezeT 1 53 (.inl trivial) rfl (ownS.fz ⟨_, rfl, rfl⟩)) ?_
      refine AOps.leads (Leads.pull 1 rfl) ?_
      refine AOps.callH (.inl trivial) (one_AH b code p 24 ln hc (by omega) (by omega) hls) rfl rfl rfl (WkL.refl _) ?_
      rintro _ _ ⟨sa, q9, j1, j2, j3, rfl, rfl⟩
      refine Y (Yields.build pl25 z25 rfl rfl) rfl ?_
      refine AOps.store (j := 1) kd25 rfl rfl rfl rfl rfl rfl ?_
      refine AOps.nil ?_
      refine AWP.leads (Leads.rowWk 1 0 rfl rfl (wk_leaf _ _ _)) ?_
      refine AWP.ret ⟨.inl rfl, ?_⟩
      exact RetH.of (rs := [.cell 8 25]) (vs := [_]) rfl ⟨resOne.cell (j := 1) rfl rfl kd25 rfl rfl rfl, trivial⟩ (KeepR.cons 0 rfl (KeepR.cons 1 rfl KeepR.nil)) (⟨.mk 3 0 sa [], q9, left - 1, leaf_bnd _ _ _ (by omega), leaf_size' _ _ _ _ (by omega), by omega, by omega, by omega, by omega, rfl, rfl⟩)
     ·
      replace g3 := of_decide_eq_false g3
      refine AOps.on rfl rfl ?_
      refine Y (mv rfl) rfl ?_
      refine AOps.on rfl rfl ?_
      refine Y (Yields.nilCheck_ptr rfl) rfl ?_
      refine AOps.on rfl rfl ?_
      refine Y (Yields.fieldAddr_ptr fo69_0 rfl) rfl ?_
      refine AOps.on rfl rfl ?_
      refine Y (Yields.load_ptr_field (j := 3) kd46 rfl rfl rfl rfl rfl rfl rfl) rfl ?_
      refine AOps.on rfl rfl ?_
      refine AOps.leads (Leads.pull 2 rfl) ?_
      refine AOps.callH (.inl trivial) (pick_AH b code p 3 hc (by omega) (by omega) (by omega)) rfl rfl rfl (WkL.refl _) ?_
      rintro _ _ ⟨m1, q1, k1, k2, k3, k4, rfl, rfl⟩
      refine AOps.on rfl rfl ?_
      refine Y (bn rfl rfl BinR.eql rfl) rfl ?_
      refine AOps.on rfl rfl ?_
      refine Y (Yields.pick_false rfl rfl) rfl ?_
      refine Y (Yields.pick_true rfl rfl) rfl ?_
      refine AOps.nil ?_
      refine AWP.condT rfl (fun g4 => ?_) (fun g4 => ?_)
      ·
       replace g4 := eq_of_beq g4
       refine AWP.seq ?_
       refine AWP.region ?_
       refine Y (mv rfl) rfl ?_
       refine Y (Yields.nilCheck_ptr rfl) rfl ?_
       refine Y (Yields.fieldAddr_ptr fo69_0 rfl) rfl ?_
       refine Y (Yields.load_ptr_field (j := 3) kd46 rfl rfl rfl rfl rfl rfl rfl) rfl ?_
       refine Y (mv rfl) rfl ?_
       refine AOps.leads (Leads.pull 1 rfl) ?_
       refine AOps.leads (Leads.freezeT 1 53 (.inl trivial) rfl (ownS.fz ⟨_, rfl, rfl⟩)) ?_
       refine AOps.callH (.inl trivial) (one_AH b code q1 24 ln hc (by omega) (by omega) hls) rfl rfl rfl (WkL.refl _) ?_
       rintro _ _ ⟨sa, q9, j1, j2, j3, rfl, rfl⟩
       refine Y (Yields.build pl25 z25 rfl rfl) rfl ?_
       refine AOps.store (j := 1) kd25 rfl rfl rfl rfl rfl rfl ?_
       refine AOps.nil ?_
       refine AWP.leads (Leads.rowWk 1 0 rfl rfl (wk_leaf _ _ _)) ?_
       refine AWP.ret ⟨.inl rfl, ?_⟩
       exact RetH.of (rs := [.cell 8 25]) (vs := [_]) rfl ⟨resOne.cell (j := 1) rfl rfl kd25 rfl rfl rfl, trivial⟩ (KeepR.cons 0 rfl (KeepR.cons 1 rfl KeepR.nil)) (⟨.mk 3 0 sa [], q9, left - 1, leaf_bnd _ _ _ (by omega), leaf_size' _ _ _ _ (by omega), by omega, by omega, by omega, by omega, rfl, rfl⟩)
      ·
       replace g4 := ne_of_beq_false g4
       refine AWP.skip ?_
       refine ⟨q1, ?_, ?_⟩
       ·
        show p ≤ q1 ∧ q1 ≤ p + 2
        exact ⟨k3, k4⟩
       · exact Leads.keepR (KeepR.cons 0 rfl (KeepR.cons 2 rfl (KeepR.cons 1 rfl KeepR.nil))) ⟨rfl, rfl, rfl, rfl, rfl, trivial⟩
   ·
    replace g1 := of_decide_eq_false g1
    refine AOps.off' rfl rfl rfl rfl ?_
    refine AOps.off' rfl rfl rfl rfl ?_
    refine AOps.off' rfl rfl rfl rfl ?_
    refine AOps.off' rfl rfl rfl rfl ?_
    refine AOps.off' rfl rfl rfl rfl ?_
    refine AOps.off' rfl rfl rfl rfl ?_
    refine AOps.offU rfl rfl rfl ?_
    refine AOps.offU rfl rfl rfl ?_
    refine AOps.off' rfl rfl rfl rfl ?_
    refine AOps.off' rfl rfl rfl rfl ?_
    refine AOps.offU rfl rfl rfl ?_
    refine AOps.offU rfl rfl rfl ?_
    refine AOps.offU rfl rfl rfl ?_
    refine AOps.offU rfl rfl rfl ?_
    refine AOps.offU rfl rfl rfl ?_
    refine AOps.offU rfl rfl rfl ?_
    refine AOps.off' rfl rfl rfl rfl ?_
    refine Y (Yields.pick_false rfl rfl) rfl ?_
    refine AOps.nil ?_
    refine AWP.cond rfl (fun h => absurd h (by decide)) (fun _ => ?_)
    refine AWP.skip ?_
    refine ⟨p, ?_, ?_⟩
    ·
     show p ≤ p ∧ p ≤ p + 2
     exact ⟨by omega, by omega⟩
    · exact Leads.keepR (KeepR.cons 2 rfl (KeepR.cons 2 rfl (KeepR.cons 1 rfl KeepR.nil))) ⟨rfl, rfl, rfl, rfl, rfl, trivial⟩
  ·
   rintro q0 hinv
   refine AWP.midE (α := Bool) (fun d : Bool => ⟨[(0, .ptr (some m) 0 0 5), (1, str t), (2, .ro 2 (bindsV bs) [] false), (3, int deep), (8, .ptr (some b8) 0 0 4)], [src b code q0, mkR b m (left - 1) calm, (some b8, ⟨4, [zero4]⟩)]⟩) (fun d : Bool => 4 ≤ left - 1 ∧ 1 ≤ deep ∧ p ≤ q0 ∧ q0 ≤ p + 2) ?_ ?_
   ·
    skip
    refine AWP.seq ?_
    refine AWP.region ?_
    obtain ⟨hq1, hq2⟩ := hinv
    refine Y (mv rfl) rfl ?_
    refine Y (Yields.nilCheck_ptr rfl) rfl ?_
    refine Y (Yields.fieldAddr_ptr fo69_3 rfl) rfl ?_
    refine Y (Yields.load_ptr_field (j := 1) kd3 rfl rfl rfl rfl rfl rfl rfl) rfl ?_
    refine Y (bn rfl rfl BinR.lss rfl) rfl ?_
    refine Y (mv rfl) rfl ?_
    refine AOps.split 61 rfl (fun g5 => ?_) (fun g5 => ?_)
    ·
     replace g5 := of_decide_eq_true g5
     refine AOps.off' rfl rfl rfl rfl ?_
     refine AOps.off' rfl rfl rfl rfl ?_
     refine Y (Yields.pick_true rfl rfl) rfl ?_
     refine AOps.nil ?_
     refine AWP.cond rfl (fun _ => ?_) (fun h => absurd h (by decide))
     refine AWP.seq ?_
     refine AWP.region ?_
     refine Y (mv rfl) rfl ?_
     refine Y (mv rfl) rfl ?_
     refine AOps.leads (Leads.pull 1 rfl) ?_
     refine AOps.leads (Leads.pull 1 rfl) ?_
     refine AOps.callH (.inl trivial) (plain_AH 4 t b m code q0 (left - 1) calm (by omega) (by omega) hc (by omega) (by omega) (by omega)) rfl rfl rfl (WkL.refl _) ?_
     rintro _ _ ⟨⟨vk, vn, vt, vks⟩, q2, lf2, w1, w2, w3, w4, w5, w6, rfl, rfl⟩
     refine AOps.store (j := 2) kd25 rfl rfl rfl rfl rfl rfl ?_
     refine AOps.nil ?_
     refine AWP.ret ⟨.inl rfl, ?_⟩
     exact RetH.of (rs := [.cell 8 25]) (vs := [_]) rfl ⟨resOne.cell (j := 2) rfl rfl kd25 rfl rfl rfl, trivial⟩ (KeepR.cons 0 rfl (KeepR.cons 0 rfl KeepR.nil)) (⟨.mk vk vn vt vks, q2, lf2, w1, by omega, by omega, by omega, by omega, by omega, rfl, rfl⟩)
    ·
     replace g5 := of_decide_eq_false g5
     refine AOps.on rfl rfl ?_
     refine Y (mv rfl) rfl ?_
     refine AOps.on rfl rfl ?_
     refine Y (bn rfl rfl BinR.lss rfl) rfl ?_
     refine Y (Yields.pick_false rfl rfl) rfl ?_
     refine AOps.nil ?_
     refine AWP.condT rfl (fun g6 => ?_) (fun g6 => ?_)
     ·
      replace g6 := of_decide_eq_true g6
      refine AWP.seq ?_
      refine AWP.region ?_
      refine Y (mv rfl) rfl ?_
      refine Y (mv rfl) rfl ?_
      refine AOps.leads (Leads.pull 1 rfl) ?_
      refine AOps.leads (Leads.pull 1 rfl) ?_
      refine AOps.callH (.inl trivial) (plain_AH 4 t b m code q0 (left - 1) calm (by omega) (by omega) hc (by omega) (by omega) (by omega)) rfl rfl rfl (WkL.refl _) ?_
      rintro _ _ ⟨⟨vk, vn, vt, vks⟩, q2, lf2, w1, w2, w3, w4, w5, w6, rfl, rfl⟩
      refine AOps.store (j := 2) kd25 rfl rfl rfl rfl rfl rfl ?_
      refine AOps.nil ?_
      refine AWP.ret ⟨.inl rfl, ?_⟩
      exact RetH.of (rs := [.cell 8 25]) (vs := [_]) rfl ⟨resOne.cell (j := 2) rfl rfl kd25 rfl rfl rfl, trivial⟩ (KeepR.cons 0 rfl (KeepR.cons 0 rfl KeepR.nil)) (⟨.mk vk vn vt vks, q2, lf2, w1, by omega, by omega, by omega, by omega, by omega, rfl, rfl⟩)
     ·
      replace g6 := of_decide_eq_false g6
      refine AWP.skip ?_
      refine ⟨true, ?_, ?_⟩
      ·
       show 4 ≤ left - 1 ∧ 1 ≤ deep ∧ p ≤ q0 ∧ q0 ≤ p + 2
       exact ⟨by omega, by omega, by omega, by omega⟩
      · exact Leads.keepR (KeepR.cons 0 rfl (KeepR.cons 0 rfl (KeepR.cons 0 rfl KeepR.nil))) ⟨rfl, rfl, rfl, rfl, rfl, trivial⟩
   ·
    rintro d hinv
    refine AWP.midE (α := Nat) (fun q : Nat => ⟨[(0, .ptr (some m) 0 0 5), (1, str t), (2, .ro 2 (bindsV bs) [] false), (3, int deep), (8, .ptr (some b8) 0 0 4)], [src b code q, mkR b m (left - 1) calm, (some b8, ⟨4, [zero4]⟩)]⟩) (fun q : Nat => q0 ≤ q ∧ q ≤ q0 + 4 ∧ 4 ≤ left - 1 ∧ 1 ≤ deep ∧ p ≤ q0 ∧ q0 ≤ p + 2) ?_ ?_
    ·
     skip
     refine AWP.seq ?_
     refine AWP.region ?_
     obtain ⟨hl3, hd3, hq1, hq2⟩ := hinv
     obtain ⟨e, he⟩ : ∃ e, n = e + 1 := ⟨n - 1, by omega⟩
     have hce : capM n = 40 + 4 * capM e := by rw [he, capM]
     have hpe := capM_pos e
     refine Y (mv rfl) rfl ?_
     refine Y (Yields.nilCheck_ptr rfl) rfl ?_
     refine Y (Yields.fieldAddr_ptr fo69_0 rfl) rfl ?_
     refine Y (Yields.load_ptr_field (j := 1) kd46 rfl rfl rfl rfl rfl rfl rfl) rfl ?_
     refine AOps.callH (.inl trivial) (pick_AH b code q0 9 hc (by omega) (by omega) (by omega)) rfl rfl rfl (WkL.refl _) ?_
     rintro _ _ ⟨m0, q5, k1, k2, k3, k4, rfl, rfl⟩
     refine AOps.nil ?_
     refine AWP.block ?_
     refine AWP.seq ?_
     refine AWP.region ?_
     refine Y (bn rfl rfl BinR.eql rfl) rfl ?_
     refine Y (ass rfl) rfl ?_
     refine AOps.nil ?_
     refine AWP.condT rfl (fun c0 => ?_) (fun c0 => ?_)
     ·
      replace c0 := eq_of_beq c0
      refine AWP.seq ?_
      refine AWP.region ?_
      refine Y (mv rfl) rfl ?_
      refine AOps.leads (Leads.pull 1 rfl) ?_
      refine AOps.leads (Leads.pull 1 rfl) ?_
      refine AOps.callH (.inl trivial) (types_AH b m code q5 (left - 1) calm hc (by omega)) rfl rfl rfl (WkL.refl _) ?_
      rintro _ _ ⟨su, q6, j4, j5, j6, rfl, rfl⟩
      refine Y (ass rfl) rfl ?_
      refine AOps.nil ?_
      refine AWP.seq ?_
      refine AWP.region ?_
      refine Y (mv rfl) rfl ?_
      refine Y (Yields.nilCheck_ptr rfl) rfl ?_
      refine Y (Yields.fieldAddr_ptr fo69_0 rfl) rfl ?_
      refine Y (Yields.load_ptr_field (j := 1) kd46 rfl rfl rfl rfl rfl rfl rfl) rfl ?_
      refine AOps.callH (.inl trivial) (local_AH b code q6 hc (by omega)) rfl rfl rfl (WkL.refl _) ?_
      rintro _ _ ⟨sn, q7, j1, j2, j3, rfl, rfl⟩
      refine Y (ass rfl) rfl ?_
      refine AOps.nil ?_
      refine AWP.seq ?_
      refine AWP.region ?_
      refine Y (mv rfl) rfl ?_
      refine Y (mv rfl) rfl ?_
      refine Y (mv rfl) rfl ?_
      refine Y (mv rfl) rfl ?_
      refine Y (bn rfl rfl (BinR.subI (by omega) (by omega)) rfl) rfl ?_
      refine AOps.leads (Leads.pull 1 rfl) ?_
      refine AOps.leads (Leads.pull 1 rfl) ?_
      refine AOps.callH (.inl trivial) (ih e he su bs q7 (left - 1) (deep - 1) (j4) (by omega) (hbs2) (by omega) (by omega) (by omega) (by omega) (by omega)) rfl rfl rfl (WkL.refl _) ?_
      rintro _ _ ⟨⟨vk1, vn1, vt1, vks1⟩, q1, lf1, u11, u12, u13, u14, u15, u16, rfl, rfl⟩
      refine AOps.alloc rfl z25 rfl rfl fun b12 => ?_
      refine AOps.store (j := 0) kd25 rfl rfl rfl rfl rfl rfl ?_
      refine AOps.nil ?_
      refine AWP.seq ?_
      refine AWP.prune (tm' := [(0, _), (1, _), (2, _), (3, _), (8, _), (72, _), (73, _), (10, _), (11, _), (12, _)]) ⟨rfl, rfl, rfl, rfl, rfl, rfl, rfl, rfl, rfl, rfl, trivial⟩ ?_
      refine AWP.drawnM [] [.pure 0, .pure 1, .pure 2, .pure 3, .pure 4, .pure 5, .pure 7, .pure 8, .pure 9, .pure 10, .pure 12, .pure 13, .spine 6 [4] [4, 5], .spine 11 [10] [4, 5, 6, 7, 8, 9, 10], .spine 14 [] [2, 3, 4, 5, 6, 7, 8, 9, 10, 11, 12, 13], .pure 15, .spine 16 [] [0, 1, 2, 3, 4, 5, 6, 7, 8, 9, 10, 11, 12, 13, 14, 15]] mixed rfl rfl rfl rfl rfl ?_
      refine DM.pure (GX (tm' := [(11, _)]) rfl ⟨rfl, trivial⟩ rfl (DStep.yields (mv rfl)) rfl) ?_
      refine DM.pure (GX (tm' := [(12, _)]) rfl ⟨rfl, trivial⟩ rfl (DStep.yields (Yields.load_ptr_agg (j := 0) kd25 rfl rfl rfl rfl)) rfl) ?_
      refine DM.pure (GX (tm' := [(0, _)]) rfl ⟨rfl, trivial⟩ rfl (DStep.yields (mv rfl)) rfl) ?_
      refine DM.pure (GX (tm' := [(1, _)]) rfl ⟨rfl, trivial⟩ rfl (DStep.yields (mv rfl)) rfl) ?_
      refine DM.pure (GXs (tm' := []) rfl trivial rfl rfl (DStepU.buildSlice sl82 z89 rfl rfl rfl rfl) rfl) ?_
      refine DM.pure (GX (tm' := [(2, _)]) rfl ⟨rfl, trivial⟩ rfl (DStep.yields (mv rfl)) rfl) ?_
      refine DM.pure (GX (tm' := [(11, _)]) rfl ⟨rfl, trivial⟩ rfl (DStep.yields (mv rfl)) rfl) ?_
      refine DM.pure (GX (tm' := [(10, _)]) rfl ⟨rfl, trivial⟩ rfl (DStep.yields (mv rfl)) rfl) ?_
      refine DM.pure (GX (tm' := [(95, _), (96, _)]) rfl ⟨rfl, rfl, trivial⟩ rfl (DStep.yields (Yields.build pl89 z89 rfl rfl)) rfl) ?_
      refine DM.pure (GXs (tm' := [(97, _)]) rfl ⟨rfl, trivial⟩ rfl rfl (DStepU.buildSlice sl82 z89 rfl rfl rfl rfl) rfl) ?_
      refine DM.pure (GX (tm' := [(3, _)]) rfl ⟨rfl, trivial⟩ rfl (DStep.yields (mv rfl)) rfl) ?_
      refine DM.pure (GX (tm' := [(100, _)]) rfl ⟨rfl, trivial⟩ rfl (DStep.yields (bn rfl rfl (BinR.subI (by omega) (by omega)) rfl)) rfl) ?_
      refine DM.sp rfl rfl ?_
      refine DOpen.own rfl fun Bl => ?_
      refine DOpen.nil fun _ _ _ => ?_
      refine AOps.subT (tm' := [(92, _), (93, _)]) ⟨rfl, rfl, trivial⟩ ?_
      refine AOps.appendE (j := 0) sl82 z89 rfl rfl rfl rfl rfl rfl rfl (src_ro rfl) (show 0 + (bindsV bs).length = bs.length by rw [bindsV_length]; omega) (List.nil_append _) (by omega) (by omega) fun Bm => ?_
      refine AOps.nil ?_
      refine SpK.mk rfl rfl ?_ ?_
      ·
       skip
       refine Stab.skip rfl ?_
       refine Stab.keep (GX (tm' := [(100, _)]) rfl ⟨rfl, trivial⟩ rfl (DStep.yields (bn rfl rfl (BinR.subI (by omega) (by omega)) rfl)) rfl) ?_
       refine Stab.keep (GX (tm' := [(3, _)]) rfl ⟨rfl, trivial⟩ rfl (DStep.yields (mv rfl)) rfl) ?_
       refine Stab.keep (GXs (tm' := [(97, _)]) rfl ⟨rfl, trivial⟩ rfl rfl (DStepU.buildSlice sl82 z89 rfl rfl rfl rfl) rfl) ?_
       refine Stab.keep (GX (tm' := [(95, _), (96, _)]) rfl ⟨rfl, rfl, trivial⟩ rfl (DStep.yields (Yields.build pl89 z89 rfl rfl)) rfl) ?_
       refine Stab.keep (GX (tm' := [(10, _)]) rfl ⟨rfl, trivial⟩ rfl (DStep.yields (mv rfl)) rfl) ?_
       refine Stab.keep (GX (tm' := [(11, _)]) rfl ⟨rfl, trivial⟩ rfl (DStep.yields (mv rfl)) rfl) ?_
       refine Stab.skip rfl ?_
       refine Stab.skip rfl ?_
       refine Stab.keep (GX (tm' := [(1, _)]) rfl ⟨rfl, trivial⟩ rfl (DStep.yields (mv rfl)) rfl) ?_
       refine Stab.keep (GX (tm' := [(0, _)]) rfl ⟨rfl, trivial⟩ rfl (DStep.yields (mv rfl)) rfl) ?_
       refine Stab.keep (GX (tm' := [(12, _)]) rfl ⟨rfl, trivial⟩ rfl (DStep.yields (Yields.load_ptr_agg (j := 1) kd25 rfl rfl rfl rfl)) rfl) ?_
       refine Stab.keep (GX (tm' := [(11, _)]) rfl ⟨rfl, trivial⟩ rfl (DStep.yields (mv rfl)) rfl) ?_
       exact trivial
      refine DM.sp rfl rfl ?_
      refine DOpen.own rfl fun Bk => ?_
      refine DOpen.nil fun _ _ _ => ?_
      refine AOps.subT (tm' := [(94, _), (98, _)]) ⟨rfl, rfl, trivial⟩ ?_
      refine AOps.appendE (j := 1) sl82 z89 rfl rfl rfl rfl rfl (bindsV_length bs) rfl (src_row (j2 := 0) rfl rfl rfl) (show bs.length + 1 = (bs ++ [(sn, su)]).length by simp) (binds_app bs (sn, su)) (by simp; omega) (by simp; omega) fun Bn => ?_
      refine AOps.nil ?_
      refine SpK.mk rfl rfl ?_ ?_
      ·
       skip
       refine Stab.skip rfl ?_
       refine Stab.skip rfl ?_
       refine Stab.keep (GX (tm' := [(100, _)]) rfl ⟨rfl, trivial⟩ rfl (DStep.yields (bn rfl rfl (BinR.subI (by omega) (by omega)) rfl)) rfl) ?_
       refine Stab.keep (GX (tm' := [(3, _)]) rfl ⟨rfl, trivial⟩ rfl (DStep.yields (mv rfl)) rfl) ?_
       refine Stab.skip rfl ?_
       refine Stab.skip rfl ?_
       refine Stab.skip rfl ?_
       refine Stab.skip rfl ?_
       refine Stab.skip rfl ?_
       refine Stab.skip rfl ?_
       refine Stab.keep (GX (tm' := [(1, _)]) rfl ⟨rfl, trivial⟩ rfl (DStep.yields (mv rfl)) rfl) ?_
       refine Stab.keep (GX (tm' := [(0, _)]) rfl ⟨rfl, trivial⟩ rfl (DStep.yields (mv rfl)) rfl) ?_
       refine Stab.keep (GX (tm' := [(12, _)]) rfl ⟨rfl, trivial⟩ rfl (DStep.yields (Yields.load_ptr_agg (j := 2) kd25 rfl rfl rfl rfl)) rfl) ?_
       refine Stab.keep (GX (tm' := [(11, _)]) rfl ⟨rfl, trivial⟩ rfl (DStep.yields (mv rfl)) rfl) ?_
       exact trivial
      refine DM.sp rfl rfl ?_
      refine DOpen.nil fun _ _ _ => ?_
      refine AOps.subT (tm' := [(90, _), (91, _), (99, _), (101, _)]) ⟨rfl, rfl, rfl, rfl, trivial⟩ ?_
      refine AOps.leads (Leads.pull 1 rfl) ?_
      refine AOps.leads (Leads.freezeT 1 99 (.inl trivial) rfl (fz_binds rfl)) ?_
      refine AOps.leads (Leads.pull 3 rfl) ?_
      refine AOps.leads (Leads.pull 3 rfl) ?_
      refine AOps.callH (.inl trivial) (ih e he t (bs ++ [(sn, su)]) q1 lf1 (deep - 1) (ht) (by simp; omega) (binds_short hbs2 j1) (by omega) (by omega) (by omega) (by omega) (by omega)) rfl rfl rfl (WkL.refl _) ?_
      rintro _ _ ⟨⟨vk2, vn2, vt2, vks2⟩, q2, lf2, u21, u22, u23, u24, u25, u26, rfl, rfl⟩
      refine AOps.nil ?_
      refine SpK.mk rfl rfl ?_ ?_
      ·
       skip
       refine Stab.skip rfl ?_
       refine Stab.skip rfl ?_
       refine Stab.skip rfl ?_
       refine Stab.skip rfl ?_
       refine Stab.skip rfl ?_
       refine Stab.skip rfl ?_
       refine Stab.skip rfl ?_
       refine Stab.skip rfl ?_
       refine Stab.skip rfl ?_
       refine Stab.skip rfl ?_
       refine Stab.skip rfl ?_
       refine Stab.skip rfl ?_
       refine Stab.skip rfl ?_
       refine Stab.keep (GX (tm' := [(12, _)]) rfl ⟨rfl, trivial⟩ rfl (DStep.yields (Yields.load_ptr_agg (j := 3) kd25 rfl rfl rfl rfl)) rfl) ?_
       refine Stab.keep (GX (tm' := [(11, _)]) rfl ⟨rfl, trivial⟩ rfl (DStep.yields (mv rfl)) rfl) ?_
       exact trivial
      refine DM.pure (GX (tm' := [(88, _), (89, _), (102, _)]) rfl ⟨rfl, rfl, rfl, trivial⟩ rfl (DStep.callro (named_AF sn (.mk vk1 vn1 vt1 vks1) (.mk vk2 vn2 vt2 vks2)) rfl rfl) rfl) ?_
      refine DM.sp rfl rfl ?_
      refine DOpen.nil fun _ _ _ => ?_
      refine AOps.subT (tm' := [(8, _), (103, _)]) ⟨rfl, rfl, trivial⟩ ?_
      refine AOps.store (j := 4) kd25 rfl rfl rfl rfl rfl rfl ?_
      refine AOps.nil ?_
      refine SpK.mk0 (Stab.all rfl) ?_
      refine DM.nil ?_
      refine AWP.ret ⟨.inl rfl, ?_⟩
      exact RetH.of (rs := [.cell 8 25]) (vs := [_]) rfl ⟨resOne.cell (j := 4) rfl rfl kd25 rfl rfl rfl, trivial⟩ (KeepR.cons 0 rfl (KeepR.cons 0 rfl KeepR.nil)) (⟨.mk 11 0 sn [.mk vk1 vn1 vt1 vks1, .mk vk2 vn2 vt2 vks2], q2, lf2, bnd2 (by omega) u11 u21, by rw [size2]; omega, by omega, by omega, by omega, by omega, rfl, rfl⟩)
     ·
      replace c0 := ne_of_beq_false c0
      refine AWP.seq ?_
      refine AWP.region ?_
      refine Y (bn rfl rfl BinR.eql rfl) rfl ?_
      refine Y (ass rfl) rfl ?_
      refine AOps.nil ?_
      refine AWP.condT rfl (fun c1 => ?_) (fun c1 => ?_)
      ·
       replace c1 := eq_of_beq c1
       refine AWP.seq ?_
       refine AWP.region ?_
       refine Y (mv rfl) rfl ?_
       refine Y (mv rfl) rfl ?_
       refine Y (mv rfl) rfl ?_
       refine Y (bn rfl rfl (BinR.subI (by omega) (by omega)) rfl) rfl ?_
       refine AOps.leads (Leads.pull 1 rfl) ?_
       refine AOps.leads (Leads.pull 1 rfl) ?_
       refine AOps.callH (.inl trivial) (ih e he ⟨#[98, 111, 111, 108]⟩ bs q5 (left - 1) (deep - 1) (typP_bool) (by omega) (hbs2) (by omega) (by omega) (by omega) (by omega) (by omega)) rfl rfl rfl (WkL.refl _) ?_
       rintro _ _ ⟨⟨vk1, vn1, vt1, vks1⟩, q1, lf1, u11, u12, u13, u14, u15, u16, rfl, rfl⟩
       refine Y (mv rfl) rfl ?_
       refine Y (mv rfl) rfl ?_
       refine Y (mv rfl) rfl ?_
       refine Y (mv rfl) rfl ?_
       refine Y (bn rfl rfl (BinR.subI (by omega) (by omega)) rfl) rfl ?_
       refine AOps.leads (Leads.pull 1 rfl) ?_
       refine AOps.leads (Leads.pull 1 rfl) ?_
       refine AOps.callH (.inl trivial) (ih e he t bs q1 lf1 (deep - 1) (ht) (by omega) (hbs2) (by omega) (by omega) (by omega) (by omega) (by omega)) rfl rfl rfl (WkL.refl _) ?_
       rintro _ _ ⟨⟨vk2, vn2, vt2, vks2⟩, q2, lf2, u21, u22, u23, u24, u25, u26, rfl, rfl⟩
       refine Y (mv rfl) rfl ?_
       refine Y (mv rfl) rfl ?_
       refine Y (mv rfl) rfl ?_
       refine Y (mv rfl) rfl ?_
       refine Y (bn rfl rfl (BinR.subI (by omega) (by omega)) rfl) rfl ?_
       refine AOps.leads (Leads.pull 1 rfl) ?_
       refine AOps.leads (Leads.pull 1 rfl) ?_
       refine AOps.callH (.inl trivial) (ih e he t bs q2 lf2 (deep - 1) (ht) (by omega) (hbs2) (by omega) (by omega) (by omega) (by omega) (by omega)) rfl rfl rfl (WkL.refl _) ?_
       rintro _ _ ⟨⟨vk3, vn3, vt3, vks3⟩, q3, lf3, u31, u32, u33, u34, u35, u36, rfl, rfl⟩
       refine AOps.step (DStep.buildRo sl23 z25 rfl rfl rfl rfl) rfl ?_
       refine Y (Yields.build pl25 z25 rfl rfl) rfl ?_
       refine AOps.store (j := 2) kd25 rfl rfl rfl rfl rfl rfl ?_
       refine AOps.nil ?_
       refine AWP.ret ⟨.inl rfl, ?_⟩
       exact RetH.of (rs := [.cell 8 25]) (vs := [_]) rfl ⟨resOne.cell (j := 2) rfl rfl kd25 rfl rfl rfl, trivial⟩ (KeepR.cons 0 rfl (KeepR.cons 0 rfl KeepR.nil)) (⟨.mk 10 0 ⟨#[]⟩ [.mk vk1 vn1 vt1 vks1, .mk vk2 vn2 vt2 vks2, .mk vk3 vn3 vt3 vks3], q3, lf3, bnd3 (by decide) u11 u21 u31, by rw [size3]; omega, by omega, by omega, by omega, by omega, rfl, rfl⟩)
      ·
       replace c1 := ne_of_beq_false c1
       refine AWP.seq ?_
       refine AWP.region ?_
       refine Y (bn rfl rfl BinR.eql rfl) rfl ?_
       refine Y (ass rfl) rfl ?_
       refine AOps.nil ?_
       refine AWP.condT rfl (fun c2 => ?_) (fun c2 => ?_)
       ·
        replace c2 := eq_of_beq c2
        refine AWP.seq ?_
        refine AWP.region ?_
        refine Y (mv rfl) rfl ?_
        refine Y (mv rfl) rfl ?_
        refine AOps.leads (Leads.pull 1 rfl) ?_
        refine AOps.leads (Leads.pull 1 rfl) ?_
        refine AOps.callH (.inl trivial) (funs_AH t b m code q5 (left - 1) calm) rfl rfl rfl (WkL.refl _) ?_
        rintro _ _ ⟨Bf, lf, hf1, hf2, rfl, rfl⟩
        refine Y (ass rfl) rfl ?_
        refine AOps.nil ?_
        refine AWP.seq ?_
        refine AWP.region ?_
        refine Y (mv rfl) rfl ?_
        refine Y (Yields.len_loc sl27 rfl) rfl ?_
        refine Y (bn rfl rfl BinR.gtr rfl) rfl ?_
        refine AOps.nil ?_
        refine AWP.condT rfl (fun c3 => ?_) (fun c3 => ?_)
        ·
         replace c3 := of_decide_eq_true c3
         refine AWP.seq ?_
         refine AWP.region ?_
         refine Y (mv rfl) rfl ?_
         refine Y (mv rfl) rfl ?_
         refine Y (Yields.nilCheck_ptr rfl) rfl ?_
         refine Y (Yields.fieldAddr_ptr fo69_0 rfl) rfl ?_
         refine Y (Yields.load_ptr_field (j := 1) kd46 rfl rfl rfl rfl rfl rfl rfl) rfl ?_
         refine Y (mv rfl) rfl ?_
         refine AOps.leads (Leads.pull 2 rfl) ?_
         refine AOps.leads (Leads.freezeT 1 138 (.inl trivial) rfl (ownS.fz ⟨_, rfl, rfl⟩)) ?_
         refine AOps.callH (.inl trivial) (one_AH b code q5 24 lf hc (by omega) (by omega) hf2) rfl rfl rfl (WkL.refl _) ?_
         rintro _ _ ⟨sa, q6, j1, j2, j3, rfl, rfl⟩
         refine Y (mv rfl) rfl ?_
         refine Y (mv rfl) rfl ?_
         refine AOps.leads (Leads.pull 1 rfl) ?_
         refine AOps.leads (Leads.pull 1 rfl) ?_
         refine AOps.callH (.inl trivial) (calling_AH e b m code calm (ih e he) sa bs q6 (left - 1) deep j1 (by omega) hbs2 (by omega) (by omega) (by omega) (by omega) (by omega)) rfl rfl rfl (WkL.refl _) ?_
         rintro _ _ ⟨⟨vk, vn, vt, vks⟩, q2, lf2, w1, w2, w3, w4, w5, w6, rfl, rfl⟩
         refine AOps.store (j := 2) kd25 rfl rfl rfl rfl rfl rfl ?_
         refine AOps.nil ?_
         refine AWP.ret ⟨.inl rfl, ?_⟩
         exact RetH.of (rs := [.cell 8 25]) (vs := [_]) rfl ⟨resOne.cell (j := 2) rfl rfl kd25 rfl rfl rfl, trivial⟩ (KeepR.cons 0 rfl (KeepR.cons 0 rfl KeepR.nil)) (⟨.mk vk vn vt vks, q2, lf2, w1, by omega, by omega, by omega, by omega, by omega, rfl, rfl⟩)
        ·
         replace c3 := of_decide_eq_false c3
         refine AWP.skip ?_
         refine ⟨q5, ?_, ?_⟩
         ·
          show q0 ≤ q5 ∧ q5 ≤ q0 + 4 ∧ 4 ≤ left - 1 ∧ 1 ≤ deep ∧ p ≤ q0 ∧ q0 ≤ p + 2
          exact ⟨by omega, by omega, by omega, by omega, by omega, by omega⟩
         · exact Leads.keepR (KeepR.cons 0 rfl (KeepR.cons 0 rfl (KeepR.cons 1 rfl KeepR.nil))) ⟨rfl, rfl, rfl, rfl, rfl, trivial⟩
       ·
        replace c2 := ne_of_beq_false c2
        refine AWP.seq ?_
        refine AWP.region ?_
        refine Y (bn rfl rfl BinR.eql rfl) rfl ?_
        refine Y (ass rfl) rfl ?_
        refine AOps.nil ?_
        refine AWP.condT rfl (fun c4 => ?_) (fun c4 => ?_)
        ·
         replace c4 := eq_of_beq c4
         refine AWP.seq ?_
         refine AWP.region ?_
         refine Y (mv rfl) rfl ?_
         refine Y (Yields.nilCheck_ptr rfl) rfl ?_
         refine Y (Yields.fieldAddr_ptr fo69_4 rfl) rfl ?_
         refine Y (Yields.load_ptr_field (j := 1) kd4 rfl rfl rfl rfl rfl rfl rfl) rfl ?_
         refine Y (Yields.not rfl) rfl ?_
         refine Y (mv rfl) rfl ?_
         refine AOps.split 150 rfl (fun g7 => ?_) (fun g7 => ?_)
         ·
          skip
          refine AOps.on rfl rfl ?_
          refine Y (mv rfl) rfl ?_
          refine AOps.on rfl rfl ?_
          refine AOps.callro (isPlain_AF t) rfl rfl rfl ?_
          refine Y (Yields.pick_true rfl rfl) rfl ?_
          refine Y (mv rfl) rfl ?_
          refine AOps.split 154 rfl (fun g8 => ?_) (fun g8 => ?_)
          ·
           skip
           refine AOps.on rfl rfl ?_
           refine Y (mv rfl) rfl ?_
           refine AOps.on rfl rfl ?_
           refine Y (Yields.nilCheck_ptr rfl) rfl ?_
           refine AOps.on rfl rfl ?_
           refine Y (Yields.fieldAddr_ptr fo69_0 rfl) rfl ?_
           refine AOps.on rfl rfl ?_
           refine Y (Yields.load_ptr_field (j := 1) kd46 rfl rfl rfl rfl rfl rfl rfl) rfl ?_
           refine AOps.on rfl rfl ?_
           refine AOps.callH (.inl trivial) (pick_AH b code q5 3 hc (by omega) (by omega) (by omega)) rfl rfl rfl (WkL.refl _) ?_
           rintro _ _ ⟨m6, q6, j1, j2, j3, j4, rfl, rfl⟩
           refine AOps.on rfl rfl ?_
           refine Y (bn rfl rfl BinR.eql rfl) rfl ?_
           refine Y (Yields.pick_true rfl rfl) rfl ?_
           refine AOps.nil ?_
           refine AWP.condT rfl (fun c5 => ?_) (fun c5 => ?_)
           ·
            replace c5 := eq_of_beq c5
            refine AWP.seq ?_
            refine AWP.region ?_
            refine Y (mv rfl) rfl ?_
            refine Y (mv rfl) rfl ?_
            refine Y (mv rfl) rfl ?_
            refine Y (mv rfl) rfl ?_
            refine Y (bn rfl rfl (BinR.subI (by omega) (by omega)) rfl) rfl ?_
            refine AOps.leads (Leads.pull 1 rfl) ?_
            refine AOps.leads (Leads.pull 1 rfl) ?_
            refine AOps.callH (.inl trivial) (ih e he t bs q6 (left - 1) (deep - 1) (ht) (by omega) (hbs2) (by omega) (by omega) (by omega) (by omega) (by omega)) rfl rfl rfl (WkL.refl _) ?_
            rintro _ _ ⟨⟨vk1, vn1, vt1, vks1⟩, q1, lf1, u11, u12, u13, u14, u15, u16, rfl, rfl⟩
            refine AOps.step (DStep.buildRo sl23 z25 rfl rfl rfl rfl) rfl ?_
            refine Y (Yields.build pl25 z25 rfl rfl) rfl ?_
            refine AOps.store (j := 2) kd25 rfl rfl rfl rfl rfl rfl ?_
            refine AOps.nil ?_
            refine AWP.ret ⟨.inl rfl, ?_⟩
            exact RetH.of (rs := [.cell 8 25]) (vs := [_]) rfl ⟨resOne.cell (j := 2) rfl rfl kd25 rfl rfl rfl, trivial⟩ (KeepR.cons 0 rfl (KeepR.cons 0 rfl KeepR.nil)) (⟨.mk 15 0 ⟨#[]⟩ [.mk vk1 vn1 vt1 vks1], q1, lf1, bnd1 (by decide) u11, by rw [size1]; omega, by omega, by omega, by omega, by omega, rfl, rfl⟩)
           ·
            replace c5 := ne_of_beq_false c5
            refine AWP.skip ?_
            refine ⟨q6, ?_, ?_⟩
            ·
             show q0 ≤ q6 ∧ q6 ≤ q0 + 4 ∧ 4 ≤ left - 1 ∧ 1 ≤ deep ∧ p ≤ q0 ∧ q0 ≤ p + 2
             exact ⟨by omega, by omega, by omega, by omega, by omega, by omega⟩
            · exact Leads.keepR (KeepR.cons 0 rfl (KeepR.cons 0 rfl (KeepR.cons 0 rfl KeepR.nil))) ⟨rfl, rfl, rfl, rfl, rfl, trivial⟩
          ·
           skip
           refine AOps.off' rfl rfl rfl rfl ?_
           refine AOps.off' rfl rfl rfl rfl ?_
           refine AOps.off' rfl rfl rfl rfl ?_
           refine AOps.off' rfl rfl rfl rfl ?_
           refine AOps.off' rfl rfl rfl rfl ?_
           refine AOps.off' rfl rfl rfl rfl ?_
           refine Y (Yields.pick_false rfl rfl) rfl ?_
           refine AOps.nil ?_
           refine AWP.cond rfl (fun h => absurd h (by decide)) (fun _ => ?_)
           refine AWP.skip ?_
           refine ⟨q5, ?_, ?_⟩
           ·
            show q0 ≤ q5 ∧ q5 ≤ q0 + 4 ∧ 4 ≤ left - 1 ∧ 1 ≤ deep ∧ p ≤ q0 ∧ q0 ≤ p + 2
            exact ⟨by omega, by omega, by omega, by omega, by omega, by omega⟩
           · exact Leads.keepR (KeepR.cons 0 rfl (KeepR.cons 0 rfl (KeepR.cons 0 rfl KeepR.nil))) ⟨rfl, rfl, rfl, rfl, rfl, trivial⟩
         ·
          skip
          refine AOps.off' rfl rfl rfl rfl ?_
          refine AOps.off' rfl rfl rfl rfl ?_
          refine Y (Yields.pick_false rfl rfl) rfl ?_
          refine Y (mv rfl) rfl ?_
          refine AOps.off' rfl rfl rfl rfl ?_
          refine AOps.off' rfl rfl rfl rfl ?_
          refine AOps.off' rfl rfl rfl rfl ?_
          refine AOps.off' rfl rfl rfl rfl ?_
          refine AOps.off' rfl rfl rfl rfl ?_
          refine AOps.off' rfl rfl rfl rfl ?_
          refine Y (Yields.pick_false rfl rfl) rfl ?_
          refine AOps.nil ?_
          refine AWP.cond rfl (fun h => absurd h (by decide)) (fun _ => ?_)
          refine AWP.skip ?_
          refine ⟨q5, ?_, ?_⟩
          ·
           show q0 ≤ q5 ∧ q5 ≤ q0 + 4 ∧ 4 ≤ left - 1 ∧ 1 ≤ deep ∧ p ≤ q0 ∧ q0 ≤ p + 2
           exact ⟨by omega, by omega, by omega, by omega, by omega, by omega⟩
          · exact Leads.keepR (KeepR.cons 0 rfl (KeepR.cons 0 rfl (KeepR.cons 0 rfl KeepR.nil))) ⟨rfl, rfl, rfl, rfl, rfl, trivial⟩
        ·
         replace c4 := ne_of_beq_false c4
         refine AWP.seq ?_
         refine AWP.region ?_
         refine Y (bn rfl rfl BinR.eql rfl) rfl ?_
         refine Y (ass rfl) rfl ?_
         refine AOps.nil ?_
         refine AWP.condT rfl (fun c5 => ?_) (fun c5 => ?_)
         ·
          replace c5 := eq_of_beq c5
          refine AWP.seq ?_
          refine AWP.region ?_
          refine Y (mv rfl) rfl ?_
          refine Y (Yields.nilCheck_ptr rfl) rfl ?_
          refine Y (Yields.fieldAddr_ptr fo69_4 rfl) rfl ?_
          refine Y (Yields.load_ptr_field (j := 1) kd4 rfl rfl rfl rfl rfl rfl rfl) rfl ?_
          refine Y (Yields.not rfl) rfl ?_
          refine Y (mv rfl) rfl ?_
          refine AOps.split 177 rfl (fun g7 => ?_) (fun g7 => ?_)
          ·
           skip
           refine AOps.on rfl rfl ?_
           refine Y (mv rfl) rfl ?_
           refine AOps.on rfl rfl ?_
           refine Y (bn rfl rfl BinR.seql rfl) rfl ?_
           refine Y (Yields.pick_true rfl rfl) rfl ?_
           refine Y (mv rfl) rfl ?_
           refine AOps.split 181 rfl (fun g8 => ?_) (fun g8 => ?_)
           ·
            replace g8 := of_decide_eq_true g8
            refine AOps.on rfl rfl ?_
            refine Y (mv rfl) rfl ?_
            refine AOps.on rfl rfl ?_
            refine Y (Yields.nilCheck_ptr rfl) rfl ?_
            refine AOps.on rfl rfl ?_
            refine Y (Yields.fieldAddr_ptr fo69_0 rfl) rfl ?_
            refine AOps.on rfl rfl ?_
            refine Y (Yields.load_ptr_field (j := 1) kd46 rfl rfl rfl rfl rfl rfl rfl) rfl ?_
            refine AOps.on rfl rfl ?_
            refine AOps.callH (.inl trivial) (pick_AH b code q5 2 hc (by omega) (by omega) (by omega)) rfl rfl rfl (WkL.refl _) ?_
            rintro _ _ ⟨m6, q6, j1, j2, j3, j4, rfl, rfl⟩
            refine AOps.on rfl rfl ?_
            refine Y (bn rfl rfl BinR.eql rfl) rfl ?_
            refine Y (Yields.pick_true rfl rfl) rfl ?_
            refine AOps.nil ?_
            refine AWP.condT rfl (fun c6 => ?_) (fun c6 => ?_)
            ·
             replace c6 := eq_of_beq c6
             refine AWP.seq ?_
             refine AWP.region ?_
             refine Y (mv rfl) rfl ?_
             refine Y (mv rfl) rfl ?_
             refine Y (mv rfl) rfl ?_
             refine Y (bn rfl rfl (BinR.subI (by omega) (by omega)) rfl) rfl ?_
             refine AOps.leads (Leads.pull 1 rfl) ?_
             refine AOps.leads (Leads.pull 1 rfl) ?_
             refine AOps.callH (.inl trivial) (ih e he ⟨#[91, 105, 110, 116, 93]⟩ bs q6 (left - 1) (deep - 1) (typP_il) (by omega) (hbs2) (by omega) (by omega) (by omega) (by omega) (by omega)) rfl rfl rfl (WkL.refl _) ?_
             rintro _ _ ⟨⟨vk1, vn1, vt1, vks1⟩, q1, lf1, u11, u12, u13, u14, u15, u16, rfl, rfl⟩
             refine Y (mv rfl) rfl ?_
             refine Y (mv rfl) rfl ?_
             refine Y (mv rfl) rfl ?_
             refine Y (bn rfl rfl (BinR.subI (by omega) (by omega)) rfl) rfl ?_
             refine AOps.leads (Leads.pull 1 rfl) ?_
             refine AOps.leads (Leads.pull 1 rfl) ?_
             refine AOps.callH (.inl trivial) (ih e he ⟨#[105, 110, 116]⟩ bs q1 lf1 (deep - 1) (typP_int) (by omega) (hbs2) (by omega) (by omega) (by omega) (by omega) (by omega)) rfl rfl rfl (WkL.refl _) ?_
             rintro _ _ ⟨⟨vk2, vn2, vt2, vks2⟩, q2, lf2, u21, u22, u23, u24, u25, u26, rfl, rfl⟩
             refine AOps.step (DStep.buildRo sl23 z25 rfl rfl rfl rfl) rfl ?_
             refine Y (Yields.build pl25 z25 rfl rfl) rfl ?_
             refine AOps.store (j := 2) kd25 rfl rfl rfl rfl rfl rfl ?_
             refine AOps.nil ?_
             refine AWP.ret ⟨.inl rfl, ?_⟩
             exact RetH.of (rs := [.cell 8 25]) (vs := [_]) rfl ⟨resOne.cell (j := 2) rfl rfl kd25 rfl rfl rfl, trivial⟩ (KeepR.cons 0 rfl (KeepR.cons 0 rfl KeepR.nil)) (⟨.mk 14 0 ⟨#[]⟩ [.mk vk1 vn1 vt1 vks1, .mk vk2 vn2 vt2 vks2], q2, lf2, bnd2 (by decide) u11 u21, by rw [size2]; omega, by omega, by omega, by omega, by omega, rfl, rfl⟩)
            ·
             replace c6 := ne_of_beq_false c6
             refine AWP.skip ?_
             refine ⟨q6, ?_, ?_⟩
             ·
              show q0 ≤ q6 ∧ q6 ≤ q0 + 4 ∧ 4 ≤ left - 1 ∧ 1 ≤ deep ∧ p ≤ q0 ∧ q0 ≤ p + 2
              exact ⟨by omega, by omega, by omega, by omega, by omega, by omega⟩
             · exact Leads.keepR (KeepR.cons 0 rfl (KeepR.cons 0 rfl (KeepR.cons 0 rfl KeepR.nil))) ⟨rfl, rfl, rfl, rfl, rfl, trivial⟩
           ·
            replace g8 := of_decide_eq_false g8
            refine AOps.off' rfl rfl rfl rfl ?_
            refine AOps.off' rfl rfl rfl rfl ?_
            refine AOps.off' rfl rfl rfl rfl ?_
            refine AOps.off' rfl rfl rfl rfl ?_
            refine AOps.off' rfl rfl rfl rfl ?_
            refine AOps.off' rfl rfl rfl rfl ?_
            refine Y (Yields.pick_false rfl rfl) rfl ?_
            refine AOps.nil ?_
            refine AWP.cond rfl (fun h => absurd h (by decide)) (fun _ => ?_)
            refine AWP.skip ?_
            refine ⟨q5, ?_, ?_⟩
            ·
             show q0 ≤ q5 ∧ q5 ≤ q0 + 4 ∧ 4 ≤ left - 1 ∧ 1 ≤ deep ∧ p ≤ q0 ∧ q0 ≤ p + 2
             exact ⟨by omega, by omega, by omega, by omega, by omega, by omega⟩
            · exact Leads.keepR (KeepR.cons 0 rfl (KeepR.cons 0 rfl (KeepR.cons 0 rfl KeepR.nil))) ⟨rfl, rfl, rfl, rfl, rfl, trivial⟩
          ·
           skip
           refine AOps.off' rfl rfl rfl rfl ?_
           refine AOps.off' rfl rfl rfl rfl ?_
           refine Y (Yields.pick_false rfl rfl) rfl ?_
           refine Y (mv rfl) rfl ?_
           refine AOps.off' rfl rfl rfl rfl ?_
           refine AOps.off' rfl rfl rfl rfl ?_
           refine AOps.off' rfl rfl rfl rfl ?_
           refine AOps.off' rfl rfl rfl rfl ?_
           refine AOps.off' rfl rfl rfl rfl ?_
           refine AOps.off' rfl rfl rfl rfl ?_
           refine Y (Yields.pick_false rfl rfl) rfl ?_
           refine AOps.nil ?_
           refine AWP.cond rfl (fun h => absurd h (by decide)) (fun _ => ?_)
           refine AWP.skip ?_
           refine ⟨q5, ?_, ?_⟩
           ·
            show q0 ≤ q5 ∧ q5 ≤ q0 + 4 ∧ 4 ≤ left - 1 ∧ 1 ≤ deep ∧ p ≤ q0 ∧ q0 ≤ p + 2
            exact ⟨by omega, by omega, by omega, by omega, by omega, by omega⟩
           · exact Leads.keepR (KeepR.cons 0 rfl (KeepR.cons 0 rfl (KeepR.cons 0 rfl KeepR.nil))) ⟨rfl, rfl, rfl, rfl, rfl, trivial⟩
         ·
          replace c5 := ne_of_beq_false c5
          refine AWP.seq ?_
          refine AWP.region ?_
          refine Y (bn rfl rfl BinR.eql rfl) rfl ?_
          refine Y (ass rfl) rfl ?_
          refine AOps.nil ?_
          refine AWP.condT rfl (fun c6 => ?_) (fun c6 => ?_)
          ·
           replace c6 := eq_of_beq c6
           refine AWP.seq ?_
           refine AWP.region ?_
           refine Y (mv rfl) rfl ?_
           refine Y (mv rfl) rfl ?_
           refine Y (mv rfl) rfl ?_
           refine AOps.leads (Leads.pull 1 rfl) ?_
           refine AOps.leads (Leads.pull 1 rfl) ?_
           refine AOps.callH (.inl trivial) (fields_AH bs t b m code q5 (left - 1) calm (by omega)) rfl rfl rfl (WkL.refl _) ?_
           rintro _ _ ⟨rfl, rfl⟩
           refine Y (mv rfl) rfl ?_
           refine Y (Yields.extract rfl rfl) rfl ?_
           refine Y (Yields.extract rfl rfl) rfl ?_
           refine AOps.alloc rfl z25 rfl rfl fun b14 => ?_
           refine AOps.store (j := 0) kd25 rfl rfl rfl rfl rfl rfl ?_
           refine Y (ass rfl) rfl ?_
           refine AOps.nil ?_
           refine AWP.seq ?_
           refine AWP.region ?_
           refine Y (mv rfl) rfl ?_
           refine AOps.nil ?_
           refine AWP.condT rfl (fun c7 => ?_) (fun c7 => ?_)
           ·
            skip
            cases c7
           ·
            skip
            refine AWP.skip ?_
            refine ⟨q5, ?_, ?_⟩
            ·
             show q0 ≤ q5 ∧ q5 ≤ q0 + 4 ∧ 4 ≤ left - 1 ∧ 1 ≤ deep ∧ p ≤ q0 ∧ q0 ≤ p + 2
             exact ⟨by omega, by omega, by omega, by omega, by omega, by omega⟩
            · exact Leads.keepR (KeepR.cons 1 rfl (KeepR.cons 1 rfl (KeepR.cons 1 rfl KeepR.nil))) ⟨rfl, rfl, rfl, rfl, rfl, trivial⟩
          ·
           replace c6 := ne_of_beq_false c6
           refine AWP.skip ?_
           refine ⟨q5, ?_, ?_⟩
           ·
            show q0 ≤ q5 ∧ q5 ≤ q0 + 4 ∧ 4 ≤ left - 1 ∧ 1 ≤ deep ∧ p ≤ q0 ∧ q0 ≤ p + 2
            exact ⟨by omega, by omega, by omega, by omega, by omega, by omega⟩
           · exact Leads.keepR (KeepR.cons 0 rfl (KeepR.cons 0 rfl (KeepR.cons 0 rfl KeepR.nil))) ⟨rfl, rfl, rfl, rfl, rfl, trivial⟩
    ·
     rintro q hinv
     refine AWP.seq ?_
     refine AWP.region ?_
     obtain ⟨hq3, hq4, hl3, hd3, hq1, hq2⟩ := hinv
     obtain ⟨e, he⟩ : ∃ e, n = e + 1 := ⟨n - 1, by omega⟩
     have hce : capM n = 40 + 4 * capM e := by rw [he, capM]
     have hpe := capM_pos e
     refine Y (mv rfl) rfl ?_
     refine Y (mv rfl) rfl ?_
     refine Y (mv rfl) rfl ?_
     refine Y (mv rfl) rfl ?_
     refine AOps.leads (Leads.pull 1 rfl) ?_
     refine AOps.leads (Leads.pull 1 rfl) ?_
     refine AOps.callH (.inl trivial) (typed_AH e b m code calm hc (ih e he) t bs q (left - 1) deep ht (by omega) hbs2 (by omega) (by omega) (by omega) (by omega) (by omega)) rfl rfl rfl (WkL.refl _) ?_
     rintro _ _ ⟨⟨vk, vn, vt, vks⟩, q2, lf2, w1, w2, w3, w4, w5, w6, rfl, rfl⟩
     refine AOps.store (j := 2) kd25 rfl rfl rfl rfl rfl rfl ?_
     refine AOps.nil ?_
     refine AWP.ret ⟨.inl rfl, ?_⟩
     exact RetH.of (rs := [.cell 8 25]) (vs := [_]) rfl ⟨resOne.cell (j := 2) rfl rfl kd25 rfl rfl rfl, trivial⟩ (KeepR.cons 0 rfl (KeepR.cons 0 rfl KeepR.nil)) (⟨.mk vk vn vt vks, q2, lf2, w1, by omega, by omega, by omega, by omega, by omega, rfl, rfl⟩)
theorem make_AH (b m : Nat) (code : List UInt8) (calm : Bool) (hc : code.length ≤ 1048576) : ∀ n, MakeOk n b m code calm
  | 0 => makeW_AH 0 b m code calm hc (fun e h => by omega)
  | n + 1 => makeW_AH (n + 1) b m code calm hc (fun e h => by
    have : e = n := by omega
    subst this
    exact make_AH b m code calm hc e)
end Go.Proofs.YteieleejhbljfaaGreat
