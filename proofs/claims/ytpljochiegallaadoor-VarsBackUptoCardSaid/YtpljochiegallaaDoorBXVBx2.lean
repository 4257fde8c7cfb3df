-- WRITTEN BY xprint.py, a program of this session (over the kit's print)
import Derived.Test.YtpljochiegallaaDoorBXVBx0
import Derived.Test.YtpljochiegallaaDoorBXVBx1
namespace Go.Proofs.YtpljochiegallaaDoor.XVB
open Go.RowKit Go.Proofs.YtpljochiegallaaDoorW.PrintWords Go.Proofs.YtpljochiegallaaDoorW.PrintLast Go.Proofs.YtpljochiegallaaDoorW.PrintMore
attribute [local go_sem] max2_int min2_int max_two min_two max_three min_three max_four min_four   -- for this text's walks alone
set_option linter.unusedVariables false
set_option linter.unusedSimpArgs false

/-! ### vars_Store_with: function 46 -/
def vars_Store_with.f (l0_0 : List (S53)) (l0_1 : List ByteArray) (a0_2 : Int) (a1_0 : ByteArray) (a1_1 : ByteArray) (a1_2 : Bool) (l1_3 : List ByteArray) : Option ((List (S53)) × List ByteArray × Int × Int) := (vars_own.f l0_0).bind fun t111 => ((slices_Clone_string_string.f l0_1).bind fun t114 => ((vars_Store_find.f t111 t114 a0_2 a1_0).bind fun t117 => (if t117 ≥ 0 then (if 0 ≤ t117 then (if t117 < (t111.length : Int) then (some ((t111.set (t117 : Int).toNat (⟨a1_0, a1_1, a1_2, l1_3⟩ : S53)), t114, a0_2, 0)) else (none)) else (none)) else (if (t111.length : Int) ≥ 1024 then (some (([] : List (S53)), ([] : List ByteArray), 0, 17)) else (if t111.length < 2199023255552 then (some ((t111 ++ [(⟨a1_0, a1_1, a1_2, l1_3⟩ : S53)]), t114, a0_2, 0)) else (none))))))
def vars_Store_with.T1 : Bool × List (List Nat × List Nat) := (true, [([], []), ([0], [0]), ([1], [1]), ([], []), ([3], [3]), ([4, 2], [4]), ([0, 1, 2, 3, 4], []), ([6, 2, 5, 0, 1, 2, 3, 4], [2, 6]), ([0, 1, 2, 3, 4, 5, 6, 7], []), ([8, 5, 7, 0, 1, 2, 3, 4, 5, 6, 7], [5, 8])])
def vars_Store_with.B1 : List Nat := [0, 1, 3, 0, 8, 31, 31, 127, 255, 511]
theorem vars_Store_with.tab1 : rtab .any (opsOf Tryd.f46 1) = vars_Store_with.T1 := by kernel_rfl
theorem vars_Store_with.bits1 : waitsOk vars_Store_with.T1.2 vars_Store_with.B1 = true := by kernel_rfl
set_option maxHeartbeats 8000000 in
set_option maxRecDepth 100000 in
theorem vars_Store_with.calls (bX : Option Addr) (bY : Nat) (bR : List (S53)) (bV : Option Addr) (bW : Nat) (bO : List ByteArray) (bH : Int) (bN : ByteArray) (bT : ByteArray) (bU : Bool) (ck : Nat → Prop) (cd : Option Addr) (ce : Nat) (bQ : List ByteArray) (r1 : List (S53)) (r2 : List ByteArray) (r3 : Int) (r4 : Int) (w : World) (hr0_0 : Kd.C k53 w bX bR.length bR) (hc0_0 : bR.length ≤ bY) (hr0_1 : Kd.C Kd.string w bV bO.length bO) (hc0_1 : bO.length ≤ bW) (hs1_3 : Kd.V Kd.string 9 w w.heap.size (fun k_ => ck k_) (.slice cd bQ.length ce) bQ) (h : vars_Store_with.f bR bO bH bN bT bU bQ = some (r1, r2, r3, r4)) :
  Calls Tryd.prog 46 #[.agg #[.slice bX bR.length bY, .slice bV bO.length bW, .int .i64 bH], .agg #[.string bN, .string bT, .bool bU, .slice cd bQ.length ce]] w fun e w' => ∃ v0_ v1_ : Value, e = .returned (.tuple #[.agg #[v0_, v1_, .int .i64 r3], .int .i64 r4]) ∧ Kd.N k53 53 w' w.heap.size (fun k_ => (ck k_ ∨ w.heap.size ≤ k_) ∧ some k_ ≠ (v1_ : Value).ownBlock) v0_ r1 ∧ Kd.R Kd.string 9 w' w.heap.size (fun k_ => (w.heap.size ≤ k_)) v1_ r2 ∧ Below w.heap.size w w' := by
 have hu27 := Tryd.underlying27
 have hu53 := Tryd.underlying53
 have HR0_0 := bu hr0_0
 have HC0_0 := bu hc0_0
 clear hr0_0 hc0_0
 have HR0_1 := bu hr0_1
 have HC0_1 := bu hc0_1
 clear hr0_1 hc0_1
 have bE := bu (show Kd.V Kd.string 9 w w.heap.size (fun k_ => (ck k_ ∨ w.heap.size ≤ k_)) (.slice cd bQ.length ce) bQ from Kd.V_mono hs1_3 (fun k_ hk => .inl hk))
 have HB := bu (bw w.heap.size w)
 have H : ((vars_own.f bR).bind fun bG => ((slices_Clone_string_string.f bO).bind fun bJ => ((vars_Store_find.f bG bJ bH bN).bind fun bS => (if bS ≥ 0 then (if 0 ≤ bS then (if bS < (bG.length : Int) then (some ((bG.set (bS : Int).toNat (⟨bN, bT, bU, bQ⟩ : S53)), bJ, bH, 0)) else (none)) else (none)) else (if (bG.length : Int) ≥ 1024 then (some (([] : List (S53)), ([] : List ByteArray), 0, 17)) else (if bG.length < 2199023255552 then (some ((bG ++ [(⟨bN, bT, bU, bQ⟩ : S53)]), bJ, bH, 0)) else (none))))))) = some (r1, r2, r3, r4) := h
 clear h
 replace H := Option.bind_eq_some_iff.mp H
 obtain ⟨bG, A30, H⟩ := H
 replace H : ((slices_Clone_string_string.f bO).bind fun bJ => ((vars_Store_find.f bG bJ bH bN).bind fun bS => (if bS ≥ 0 then (if 0 ≤ bS then (if bS < (bG.length : Int) then (some ((bG.set (bS : Int).toNat (⟨bN, bT, bU, bQ⟩ : S53)), bJ, bH, 0)) else (none)) else (none)) else (if (bG.length : Int) ≥ 1024 then (some (([] : List (S53)), ([] : List ByteArray), 0, 17)) else (if bG.length < 2199023255552 then (some ((bG ++ [(⟨bN, bT, bU, bQ⟩ : S53)]), bJ, bH, 0)) else (none)))))) = some (r1, r2, r3, r4) := H
 have A3 := bu A30
 clear A30
 replace H := Option.bind_eq_some_iff.mp H
 obtain ⟨bJ, A40, H⟩ := H
 replace H : ((vars_Store_find.f bG bJ bH bN).bind fun bS => (if bS ≥ 0 then (if 0 ≤ bS then (if bS < (bG.length : Int) then (some ((bG.set (bS : Int).toNat (⟨bN, bT, bU, bQ⟩ : S53)), bJ, bH, 0)) else (none)) else (none)) else (if (bG.length : Int) ≥ 1024 then (some (([] : List (S53)), ([] : List ByteArray), 0, 17)) else (if bG.length < 2199023255552 then (some ((bG ++ [(⟨bN, bT, bU, bQ⟩ : S53)]), bJ, bH, 0)) else (none))))) = some (r1, r2, r3, r4) := H
 have A4 := bu A40
 clear A40
 replace H := Option.bind_eq_some_iff.mp H
 obtain ⟨bS, A50, H⟩ := H
 replace H : (if bS ≥ 0 then (if 0 ≤ bS then (if bS < (bG.length : Int) then (some ((bG.set (bS : Int).toNat (⟨bN, bT, bU, bQ⟩ : S53)), bJ, bH, 0)) else (none)) else (none)) else (if (bG.length : Int) ≥ 1024 then (some (([] : List (S53)), ([] : List ByteArray), 0, 17)) else (if bG.length < 2199023255552 then (some ((bG ++ [(⟨bN, bT, bU, bQ⟩ : S53)]), bJ, bH, 0)) else (none)))) = some (r1, r2, r3, r4) := H
 have A5 := bu A50
 clear A50
 by_cases c6 : bS ≥ 0
 ·
  rw [if_pos c6] at H
  have c6b0 : decide (0 ≤ bS) = true := decide_eq_true c6
  clear c6
  by_cases c7 : 0 ≤ bS
  ·
   rw [if_pos c7] at H
   have c7b0 : decide (0 ≤ bS) = true := decide_eq_true c7
   clear c7
   by_cases c8 : bS < (bG.length : Int)
   ·
    rw [if_pos c8] at H
    have c8b0 : decide (bS < (bG.length : Int)) = true := decide_eq_true c8
    clear c8
    obtain ⟨y118, hy118⟩ : ∃ y_ : List (S53), y_ = (bG.set (bS : Int).toNat (⟨bN, bT, bU, bQ⟩ : S53)) := ⟨_, rfl⟩
    replace H : (some (y118, bJ, bH, 0)) = some (r1, r2, r3, r4) := by first | (rw [hy118]; with_reducible exact H) | (have H2_ := (Option.bind_some _ _).symm.trans H; rw [hy118]; with_reducible exact H2_) | (have H2_ := (Option.bind_some _ _).symm.trans H; with_reducible exact H2_) | with_reducible exact H | (rw [hy118]; exact H) | exact H
    have Ny118 := bu hy118
    clear hy118
    simp only [Option.some.injEq, Prod.mk.injEq] at H
    obtain ⟨rfl, rfl, rfl, rfl⟩ := H
    go_enter Tryd.func46, Tryd.ntmps46
    try go_wp2_with (first | ((with_reducible refine gate_dst (N := 2) rfl ?_); refine box_event ?hg (N := 2) ?hd (cs := #[.slice bX bR.length bY, .slice bV bO.length bW, .int .i64 bH]) (t := 27) ?hr ?_; (case hd => rfl); (case hg => rfl); (case hr => first | (go_simp; done) | (go_simp; rfl)); intro bA hg w10 hbox hb; have cf := bu (Kd.V_below (Kd.V_elderB (by (with_reducible repeat (first | apply Kd.V_alloc | apply Kd.V_drewN | apply Kd.V_drew)); exact bE.out) bA (Nat.le_of_eq hg.symm)) hb); have cg := bu (below_step (by repeat (first | (with_reducible first | exact HB.out | apply bm | apply bj | apply bn) | exact HB.out)) hb); have ch := bu (hbox); have ci := bu ((by rw [hg]; exact (bs (by repeat (first | (with_reducible first | exact HB.out | apply bm | apply bj | apply bn) | exact HB.out))) : w.heap.size ≤ bA)); have cj := bu ((by rw [hg]; exact (bs (by repeat (first | (with_reducible first | exact HB.out | apply bm | apply bj | apply bn) | exact HB.out))) : w.heap.size ≤ bA)); clear bE; clear HB; have bE := cf; have HB := cg; have bz := ch; have GW108 := ci; have bK := cj; clear cf cg ch ci cj; clear hb hbox hg) | ((with_reducible refine gate_dst (N := 3) rfl ?_); refine box_event ?hg (N := 3) ?hd (cs := #[.string bN, .string bT, .bool bU, .slice cd bQ.length ce]) (t := 53) ?hr ?_; (case hd => rfl); (case hg => rfl); (case hr => first | (go_simp; done) | (go_simp; rfl)); intro bC hg w11 hbox hb; have cf := bu (Kd.V_below (Kd.V_elderB (by (with_reducible repeat (first | apply Kd.V_alloc | apply Kd.V_drewN | apply Kd.V_drew)); exact bE.out) bC (Nat.le_of_eq hg.symm)) hb); have cg := bu (bl (g := bA) (o := .cells #[.slice bX bR.length bY, .slice bV bO.length bW, .int .i64 bH] 27 (0, 0)) (by (with_reducible repeat (first | refine a4 ?_ _ | refine bh ?_ | refine a5 ?_ _)); exact bz.out) hb); have ch := bu (below_step (by repeat (first | (with_reducible first | exact HB.out | apply bm | apply bj | apply bn | refine bi ?_ bK.out) | exact HB.out)) hb); have ci := bu (hbox); have cj := bu ((by rw [hg]; exact (bs (by repeat (first | (with_reducible first | exact HB.out | apply bm | apply bj | apply bn | refine bi ?_ bK.out) | exact HB.out))) : w.heap.size ≤ bC)); have cn := bu ((by rw [hg]; exact (bs (by repeat (first | (with_reducible first | exact HB.out | apply bm | apply bj | apply bn | refine bi ?_ bK.out) | exact HB.out))) : w.heap.size ≤ bC)); have cu := bu ((by rw [hg]; exact Nat.ne_of_lt (blk_lt (g := bA) (o := .cells #[.slice bX bR.length bY, .slice bV bO.length bW, .int .i64 bH] 27 (0, 0)) (by (with_reducible repeat (first | refine a4 ?_ _ | refine bh ?_ | refine a5 ?_ _)); exact bz.out)) : bA ≠ bC)); have n7_ := bu ((by rw [hg]; exact Nat.ne_of_gt (blk_lt (g := bA) (o := .cells #[.slice bX bR.length bY, .slice bV bO.length bW, .int .i64 bH] 27 (0, 0)) (by (with_reducible repeat (first | refine a4 ?_ _ | refine bh ?_ | refine a5 ?_ _)); exact bz.out)) : bC ≠ bA)); clear bE; clear bz; clear HB; have bE := cf; have bz := cg; have HB := ch; have bB := ci; have GW109 := cj; have bP := cn; have cb := cu; have bM := n7_; clear cf cg ch ci cj cn cu n7_; clear hb hbox hg) | ((with_reducible refine gate_dst (N := 4) rfl ?_); refine box_event ?hg (N := 4) ?hd (cs := #[.slice none 0 0, .slice none 0 0, .int .i64 0]) (t := 27) ?hr ?_; (case hd => rfl); (case hg => rfl); (case hr => first | (go_simp; done) | (go_simp; rfl)); intro bD hg w12 hbox hb; have cf := bu (Kd.V_below (Kd.V_elderB (by (with_reducible repeat (first | apply Kd.V_alloc | apply Kd.V_drewN | apply Kd.V_drew)); exact bE.out) bD (Nat.le_of_eq hg.symm)) hb); have cg := bu (bl (g := bA) (o := .cells #[.slice bX bR.length bY, .slice bV bO.length bW, .int .i64 bH] 27 (0, 0)) (by (with_reducible repeat (first | refine a4 ?_ _ | refine bh ?_ | refine a5 ?_ _)); exact bz.out) hb); have ch := bu (bl (g := bC) (o := .cells #[.string bN, .string bT, .bool bU, .slice cd bQ.length ce] 53 (0, 0)) (by (with_reducible repeat (first | refine a4 ?_ _ | refine bh ?_ | refine a5 ?_ _)); exact bB.out) hb); have ci := bu (below_step (by repeat (first | (with_reducible first | exact HB.out | apply bm | apply bj | apply bn | refine bi ?_ bK.out | refine bi ?_ bP.out) | exact HB.out)) hb); have cj := bu (hbox); have cn := bu ((by rw [hg]; exact (bs (by repeat (first | (with_reducible first | exact HB.out | apply bm | apply bj | apply bn | refine bi ?_ bK.out | refine bi ?_ bP.out) | exact HB.out))) : w.heap.size ≤ bD)); have cu := bu ((by rw [hg]; exact (bs (by repeat (first | (with_reducible first | exact HB.out | apply bm | apply bj | apply bn | refine bi ?_ bK.out | refine bi ?_ bP.out) | exact HB.out))) : w.heap.size ≤ bD)); have n7_ := bu ((by rw [hg]; exact Nat.ne_of_lt (blk_lt (g := bA) (o := .cells #[.slice bX bR.length bY, .slice bV bO.length bW, .int .i64 bH] 27 (0, 0)) (by (with_reducible repeat (first | refine a4 ?_ _ | refine bh ?_ | refine a5 ?_ _)); exact bz.out)) : bA ≠ bD)); have n8_ := bu ((by rw [hg]; exact Nat.ne_of_gt (blk_lt (g := bA) (o := .cells #[.slice bX bR.length bY, .slice bV bO.length bW, .int .i64 bH] 27 (0, 0)) (by (with_reducible repeat (first | refine a4 ?_ _ | refine bh ?_ | refine a5 ?_ _)); exact bz.out)) : bD ≠ bA)); have n9_ := bu ((by rw [hg]; exact Nat.ne_of_lt (blk_lt (g := bC) (o := .cells #[.string bN, .string bT, .bool bU, .slice cd bQ.length ce] 53 (0, 0)) (by (with_reducible repeat (first | refine a4 ?_ _ | refine bh ?_ | refine a5 ?_ _)); exact bB.out)) : bC ≠ bD)); have n10_ := bu ((by rw [hg]; exact Nat.ne_of_gt (blk_lt (g := bC) (o := .cells #[.string bN, .string bT, .bool bU, .slice cd bQ.length ce] 53 (0, 0)) (by (with_reducible repeat (first | refine a4 ?_ _ | refine bh ?_ | refine a5 ?_ _)); exact bB.out)) : bD ≠ bC)); clear bE; clear bz; clear bB; clear HB; have bE := cf; have bz := cg; have bB := ch; have HB := ci; have bF := cj; have GW110 := cn; have bZ := cu; have cc := n7_; have bL := n8_; have cv := n9_; have cw := n10_; clear cf cg ch ci cj cn cu n7_ n8_ n9_ n10_; clear hb hbox hg))
    have cf := bu (Kd.V_drew bE.out)
    have cg := bu (bh bz.out)
    have ch := bu (bh bB.out)
    have ci := bu (bh bF.out)
    have cj := bu (bn HB.out)
    clear bE
    clear bz
    clear bB
    clear bF
    clear HB
    have bE := cf
    have bz := cg
    have bB := ch
    have bF := ci
    have HB := cj
    clear cf cg ch ci cj
    refine start_ (n := 10) (S := fun w' => w'.cell? ⟨bA, 0, none⟩ = some (.slice bX bR.length bY) ∧ w'.cell? ⟨bA, 1, none⟩ = some (.slice bV bO.length bW) ∧ w'.cell? ⟨bA, 2, none⟩ = some (.int .i64 bH)) (ds := [7, 9]) #[false, false, false, false, false, false, false, false, false, false] (by kernel_rfl) rfl rfl ⟨(bo bz.out 0).trans rfl, (bo bz.out 1).trans rfl, (bo bz.out 2).trans rfl⟩ (fun hHeld => ?_); refine with_tabW vars_Store_with.tab1 vars_Store_with.bits1 (fun HT_ HW_ => ?_)
    generalize w12.drew = w13 at bE bz bB bF HB hHeld ⊢
    refine pure_ (i := 0) (N := some 7) (v := ?_) (a' := ?_) #[true, false, false, false, false, false, false, false, false, false] rfl rfl (any_of HT_.out (by kernel_rfl)) (fun _ _ _ h => h) (Or.inl ⟨by rfl, ?_⟩) ?_ ?_
    rotate_left
    ·
     intro w'
     go_simp
     with_reducible rfl
    rotate_left
    ·
     simp only [Act.put, List.setIfInBounds_toArray, List.set_cons_zero, List.set_cons_succ, i64_w, i32_w]
     rfl
    refine pure_ (i := 3) (N := some 10) (v := ?_) (a' := ?_) #[true, false, false, true, false, false, false, false, false, false] rfl rfl (any_of HT_.out (by kernel_rfl)) (fun _ _ _ h => h) (Or.inl ⟨by rfl, ?_⟩) ?_ ?_
    rotate_left
    ·
     intro w'
     go_simp
     with_reducible rfl
    rotate_left
    ·
     simp only [Act.put, List.setIfInBounds_toArray, List.set_cons_zero, List.set_cons_succ, i64_w, i32_w]
     rfl
    refine take_ (i := 1) (N := some 8) (v := ?_) (a' := ?_) #[true, true, false, true, false, false, false, false, false, false] rfl rfl (take_ofW HT_.out HW_.out (by kernel_rfl)) (fun _ _ _ h => h) (Or.inl ⟨by rfl, ?_⟩) hHeld ?_ ?_
    rotate_left
    ·
     rintro w' ⟨s0, s1, s2⟩
     go_simp
     with_reducible rfl
    rotate_left
    ·
     simp only [Act.put, List.setIfInBounds_toArray, List.set_cons_zero, List.set_cons_succ, i64_w, i32_w]
     rfl
    refine take_ (i := 4) (N := some 11) (v := ?_) (a' := ?_) #[true, true, false, true, true, false, false, false, false, false] rfl rfl (take_ofW HT_.out HW_.out (by kernel_rfl)) (fun _ _ _ h => h) (Or.inl ⟨by rfl, ?_⟩) hHeld ?_ ?_
    rotate_left
    ·
     rintro w' ⟨s0, s1, s2⟩
     go_simp
     with_reducible rfl
    rotate_left
    ·
     simp only [Act.put, List.setIfInBounds_toArray, List.set_cons_zero, List.set_cons_succ, i64_w, i32_w]
     rfl
    refine one_ (i := 2) (N := some 9) #[true, true, true, true, true, false, false, false, false, false] rfl rfl (one_of HT_.out (by kernel_rfl)) (by decide) (fun K hK => ?_)
    refine goes_ Tryd.func21 (by kernel_rfl) rfl #[.slice bX bR.length bY] (by rfl) rfl rfl (by (try simp only [List.map_toArray, List.map_cons, List.map_nil]); first | done | rfl | (simp only [List.length_drop, List.length_take]; rfl)) ?_
    with_reducible refine (vars_own.calls _ _ bR bG _ ?cl ?cm A3.out).mono ?_
    (case cl => repeat (first | exact (br HR0_0.out HB.out) | (with_reducible refine bp ?_ _) | (with_reducible refine bq ?_ _) | (with_reducible refine Kd.C_drew ?_)))
    (case cm => exact HC0_0.out)
    rintro e w14 ⟨v112, rfl, cz, hb⟩
    refine ⟨_, rfl, ?_⟩
    have cf := bu (Kd.V_elder' (by (with_reducible repeat (first | apply Kd.V_alloc | apply Kd.V_drewN | apply Kd.V_drew)); exact bE.out) (Kd.N_base cz) hb)
    have cg := bu (Kd.N_lower (Kd.N_mono (ok' := fun k_ => (ck k_ ∨ w.heap.size ≤ k_) ∧ k_ ≠ bA ∧ k_ ≠ bC ∧ k_ ≠ bD) cz (fun k_ hk_ => ⟨(.inr (Nat.le_trans (bs (by repeat (first | (with_reducible first | exact HB.out | apply bm | apply bj | apply bn | refine bi ?_ bK.out | refine bi ?_ bP.out | refine bi ?_ bZ.out) | exact HB.out))) hk_)), (Kd.freshB (g := bA) (o := .cells #[.slice bX bR.length bY, .slice bV bO.length bW, .int .i64 bH] 27 (0, 0)) (by (with_reducible repeat (first | refine a4 ?_ _ | refine bh ?_ | refine a5 ?_ _)); exact bz.out) k_ hk_), (Kd.freshB (g := bC) (o := .cells #[.string bN, .string bT, .bool bU, .slice cd bQ.length ce] 53 (0, 0)) (by (with_reducible repeat (first | refine a4 ?_ _ | refine bh ?_ | refine a5 ?_ _)); exact bB.out) k_ hk_), (Kd.freshB (g := bD) (o := .cells #[.slice none 0 0, .slice none 0 0, .int .i64 0] 27 (0, 0)) (by (with_reducible repeat (first | refine a4 ?_ _ | refine bh ?_ | refine a5 ?_ _)); exact bF.out) k_ hk_)⟩)) (bs (by repeat (first | (with_reducible first | exact HB.out | apply bm | apply bj | apply bn | refine bi ?_ bK.out | refine bi ?_ bP.out | refine bi ?_ bZ.out) | exact HB.out))))
    have ch := bu (bl (g := bA) (o := .cells #[.slice bX bR.length bY, .slice bV bO.length bW, .int .i64 bH] 27 (0, 0)) (by (with_reducible repeat (first | refine a4 ?_ _ | refine bh ?_ | refine a5 ?_ _)); exact bz.out) hb)
    have ci := bu (bl (g := bC) (o := .cells #[.string bN, .string bT, .bool bU, .slice cd bQ.length ce] 53 (0, 0)) (by (with_reducible repeat (first | refine a4 ?_ _ | refine bh ?_ | refine a5 ?_ _)); exact bB.out) hb)
    have cj := bu (bl (g := bD) (o := .cells #[.slice none 0 0, .slice none 0 0, .int .i64 0] 27 (0, 0)) (by (with_reducible repeat (first | refine a4 ?_ _ | refine bh ?_ | refine a5 ?_ _)); exact bF.out) hb)
    have cn := bu (below_step (by repeat (first | (with_reducible first | exact HB.out | apply bm | apply bj | apply bn | refine bi ?_ bK.out | refine bi ?_ bP.out | refine bi ?_ bZ.out) | exact HB.out)) hb)
    clear bE
    clear bz
    clear bB
    clear bF
    clear HB
    have bE := cf
    have bI := cg
    have bz := ch
    have bB := ci
    have bF := cj
    have HB := cn
    clear cf cg ch ci cj cn
    (try clear hb)
    (try clear hb2)
    (try clear hk)
    (try clear hi)
    (try clear cz)
    refine hK.out _ _ ⟨(bo bz.out 0).trans rfl, (bo bz.out 1).trans rfl, (bo bz.out 2).trans rfl⟩ (fun hHeld => ?_)
    clear hK K
    refine norm_ (a' := ?_) ?_ ?_
    rotate_left
    ·
     show Act.put _ (some 9) _ = _
     simp only [Act.put, List.setIfInBounds_toArray, List.set_cons_zero, List.set_cons_succ, i64_w, i32_w]
     rfl
    refine pure_ (i := 6) (N := some 13) (v := ?_) (a' := ?_) #[true, true, true, true, true, false, true, false, false, false] rfl rfl (any_of HT_.out (by kernel_rfl)) (fun _ _ _ h => h) (Or.inl ⟨by rfl, ?_⟩) ?_ ?_
    rotate_left
    ·
     intro w'
     go_simp
     with_reducible rfl
    rotate_left
    ·
     simp only [Act.put, List.setIfInBounds_toArray, List.set_cons_zero, List.set_cons_succ, i64_w, i32_w]
     rfl
    refine one_ (i := 5) (N := some 12) #[true, true, true, true, true, true, true, false, false, false] rfl rfl (one_of HT_.out (by kernel_rfl)) (by decide) (fun K hK => ?_)
    refine goes_ Tryd.func22 (by kernel_rfl) rfl #[.slice bV bO.length bW] (by rfl) rfl rfl (by (try simp only [List.map_toArray, List.map_cons, List.map_nil]); first | done | rfl | (simp only [List.length_drop, List.length_take]; rfl)) ?_
    with_reducible refine (slices_Clone_string_string.calls _ _ bO bJ _ ?cl ?cm A4.out).mono ?_
    (case cl => repeat (first | exact (br HR0_1.out HB.out) | (with_reducible refine bp ?_ _) | (with_reducible refine bq ?_ _) | (with_reducible refine Kd.C_drew ?_)))
    (case cm => exact HC0_1.out)
    rintro e w15 ⟨v115, rfl, cz, hb⟩
    refine ⟨_, rfl, ?_⟩
    have cf := bu (Kd.V_elder' (by (with_reducible repeat (first | apply Kd.V_alloc | apply Kd.V_drewN | apply Kd.V_drew)); exact bE.out) (Kd.R_base cz) hb)
    have cg := bu (Kd.N_elder' (by (with_reducible repeat (first | apply Kd.N_alloc | apply Kd.N_drewN | apply Kd.N_drew)); exact bI.out) (Kd.R_base cz) hb)
    have ch := bu (Kd.R_lower (Kd.R_newM (M := fun k_ => (w.heap.size ≤ k_)) cz (bs (by repeat (first | (with_reducible first | exact HB.out | apply bm | apply bj | apply bn | refine bi ?_ bK.out | refine bi ?_ bP.out | refine bi ?_ bZ.out) | exact HB.out))) (fun k_ h_ => h_)) (bs (by repeat (first | (with_reducible first | exact HB.out | apply bm | apply bj | apply bn | refine bi ?_ bK.out | refine bi ?_ bP.out | refine bi ?_ bZ.out) | exact HB.out))))
    have ci := bu (bl (g := bA) (o := .cells #[.slice bX bR.length bY, .slice bV bO.length bW, .int .i64 bH] 27 (0, 0)) (by (with_reducible repeat (first | refine a4 ?_ _ | refine bh ?_ | refine a5 ?_ _)); exact bz.out) hb)
    have cj := bu (bl (g := bC) (o := .cells #[.string bN, .string bT, .bool bU, .slice cd bQ.length ce] 53 (0, 0)) (by (with_reducible repeat (first | refine a4 ?_ _ | refine bh ?_ | refine a5 ?_ _)); exact bB.out) hb)
    have cn := bu (bl (g := bD) (o := .cells #[.slice none 0 0, .slice none 0 0, .int .i64 0] 27 (0, 0)) (by (with_reducible repeat (first | refine a4 ?_ _ | refine bh ?_ | refine a5 ?_ _)); exact bF.out) hb)
    have cu := bu (below_step (by repeat (first | (with_reducible first | exact HB.out | apply bm | apply bj | apply bn | refine bi ?_ bK.out | refine bi ?_ bP.out | refine bi ?_ bZ.out) | exact HB.out)) hb)
    clear bE
    clear bI
    clear bz
    clear bB
    clear bF
    clear HB
    have bE := cf
    have bI := cg
    have ca := ch
    have bz := ci
    have bB := cj
    have bF := cn
    have HB := cu
    clear cf cg ch ci cj cn cu
    (try clear hb)
    (try clear hb2)
    (try clear hk)
    (try clear hi)
    (try clear cz)
    obtain ⟨Ao16, co, eo16⟩ := Kd.N_slice bI.out
    (first | subst eo16 | (injection eo16 with f1_ f2_ f3_; have f4_ := f1_.symm; have f5_ := f3_.symm; clear f1_ f2_ f3_; subst f4_; subst f5_))
    obtain ⟨cr, cp, eo18⟩ := Kd.R_slice ca.out
    (first | subst eo18 | (injection eo18 with f1_ f2_ f3_; have f4_ := f1_.symm; have f5_ := f3_.symm; clear f1_ f2_ f3_; subst f4_; subst f5_))
    refine hK.out _ _ ⟨(bo bz.out 0).trans rfl, (bo bz.out 1).trans rfl, (bo bz.out 2).trans rfl⟩ (fun hHeld => ?_)
    clear hK K
    refine norm_ (a' := ?_) ?_ ?_
    rotate_left
    ·
     show Act.put _ (some 12) _ = _
     simp only [Act.put, List.setIfInBounds_toArray, List.set_cons_zero, List.set_cons_succ, i64_w, i32_w]
     rfl
    refine last_ (i := 7) (N := none) #[true, true, true, true, true, true, true, true, false, false] rfl rfl (one_of HT_.out (by kernel_rfl)) (by decide) (fun K hK => ?_)
    have hs17 : w15.cell? ⟨bA, 0, none⟩ = some (.slice bX bR.length bY) := (bo bz.out 0).trans rfl
    have hfs17 := bk bz.out 0
    have hns17_1 := bM.out
    have hns17_2 := bL.out
    have hms17_1 := cb.out
    have hms17_2 := cc.out
    refine skip_ (w1 := ?_) (by rfl) rfl ?_ ?_
    rotate_left
    ·
     go_simp
     rfl
    refine hK.out _ _ ?_
    clear hK K
    refine pure_ (i := 8) (N := some 14) (v := ?_) (a' := ?_) #[true, true, true, true, true, true, true, true, true, false] rfl rfl (any_of HT_.out (by kernel_rfl)) (fun _ _ _ h => h) (Or.inl ⟨by rfl, ?_⟩) ?_ ?_
    rotate_left
    ·
     intro w'
     go_simp
     with_reducible rfl
    rotate_left
    ·
     simp only [Act.put, List.setIfInBounds_toArray, List.set_cons_zero, List.set_cons_succ, i64_w, i32_w]
     rfl
    refine last_ (i := 9) (N := none) #[true, true, true, true, true, true, true, true, true, true] rfl rfl (one_of HT_.out (by kernel_rfl)) (by decide) (fun K hK => ?_)
    have hs19 : w15.cell? ⟨bA, 1, none⟩ = some (.slice bV bO.length bW) := (bo bz.out 1).trans rfl
    have hfs19 := bk bz.out 1
    have hns19_1 := bM.out
    have hns19_2 := bL.out
    have hms19_1 := cb.out
    have hms19_2 := cc.out
    refine skip_ (w1 := ?_) (by rfl) rfl ?_ ?_
    rotate_left
    ·
     go_simp
     rfl
    refine hK.out _ _ ?_
    clear hK K
    refine done_ (done_of HT_.out (by kernel_rfl)) ?_
    have hnb20 := cb.out
    have hnc20 := bM.out
    have hnb21 := cc.out
    have hnc21 := bL.out
    have hcz22_0 : w15.cell? ⟨bA, 0, none⟩ = some (.slice bX bR.length bY) := (bo bz.out 0).trans rfl
    have hcz22_1 : w15.cell? ⟨bA, 1, none⟩ = some (.slice bV bO.length bW) := (bo bz.out 1).trans rfl
    have hcz22_2 : w15.cell? ⟨bA, 2, none⟩ = some (.int .i64 bH) := (bo bz.out 2).trans rfl
    have hfz22_0 := bk bz.out 0
    have hfz22_1 := bk bz.out 1
    have hfz22_2 := bk bz.out 2
    have hnb23 := cv.out
    have hnc23 := cw.out
    have hcz24_0 : w15.cell? ⟨bC, 0, none⟩ = some (.string bN) := (bo bB.out 0).trans rfl
    have hcz24_1 : w15.cell? ⟨bC, 1, none⟩ = some (.string bT) := (bo bB.out 1).trans rfl
    have hcz24_2 : w15.cell? ⟨bC, 2, none⟩ = some (.bool bU) := (bo bB.out 2).trans rfl
    have hcz24_3 : w15.cell? ⟨bC, 3, none⟩ = some (.slice cd bQ.length ce) := (bo bB.out 3).trans rfl
    have hfz24_0 := bk bB.out 0
    have hfz24_1 := bk bB.out 1
    have hfz24_2 := bk bB.out 2
    have hfz24_3 := bk bB.out 3
    try go_wp2_with (first | ((with_reducible refine bv (f := 33) rfl ?_); refine goesL_ (some 18) rfl rfl Tryd.func33 (by kernel_rfl) rfl #[.agg #[.slice Ao16 bG.length co, .slice cr bJ.length cp, .int .i64 bH], .string bN] rfl (by (try simp only [List.map_toArray, List.map_cons, List.map_nil]); first | done | rfl | (simp only [List.length_drop, List.length_take]; rfl)) ?_; (with_reducible refine (vars_Store_find.calls _ _ bG _ _ bJ bH bN bS _ ?cl ?cm ?side3 ?side4 A5.out).mono ?_); (case cl => refine (Kd.N_reads' (e := 53) (base := w.heap.size) (ok := fun k_ => (((ck k_ ∨ w.heap.size ≤ k_) ∧ (k_ ≠ bA ∧ (k_ ≠ bC ∧ k_ ≠ bD))) ∧ some k_ ≠ (.slice cr bJ.length cp : Value).ownBlock)) (n := bG.length) (c := co) ?_).2.2; exact (by (with_reducible repeat (first | apply Kd.N_alloc | apply Kd.N_drewN | apply Kd.N_drew)); exact (Kd.N_mono (Kd.N_far (p := ⟨bA, 1, none⟩) (Kd.N_far (p := ⟨bA, 0, none⟩) (Kd.N_mono bI.out (fun k_ hk => (⟨hk, hk.1.2.1⟩ : _ ∧ k_ ≠ bA))) (fun _ hk => hk.2) (.slice Ao16 bG.length co)) (fun _ hk => hk.2) (.slice cr bJ.length cp)) (fun _ h_ => h_.1)))); (case cm => exact (Kd.N_reads' bI.out).2.1); (case side3 => refine (Kd.R_reads' (e := 9) (base := w.heap.size) (ok := fun k_ => ((w.heap.size ≤ k_) ∧ True)) (n := bJ.length) (c := cp) ?_).2.2; exact (by (with_reducible repeat (first | apply Kd.R_alloc | apply Kd.R_drewN | apply Kd.R_drew)); exact (Kd.R_mono (Kd.R_far (p := ⟨bA, 1, none⟩) (Kd.R_far (p := ⟨bA, 0, none⟩) (Kd.R_types ca.out bz.out (by decide)) (fun _ hk => hk.2) (.slice Ao16 bG.length co)) (fun _ hk => hk.2) (.slice cr bJ.length cp)) (fun _ h_ => h_.1)))); (case side4 => exact (Kd.R_reads' ca.out).2.1); rintro e w25 ⟨rfl, hb⟩; refine ⟨_, rfl, ?_⟩; have cf := bu (Kd.V_below (by (with_reducible repeat (first | apply Kd.V_alloc | apply Kd.V_drewN | apply Kd.V_drew)); exact (Kd.V_mono (Kd.V_far (p := ⟨bA, 1, none⟩) (Kd.V_far (p := ⟨bA, 0, none⟩) (Kd.V_mono bE.out (fun k_ hk => (⟨hk, hk.1.1.1.1.2⟩ : _ ∧ k_ ≠ bA))) (fun _ hk => hk.2) (.slice Ao16 bG.length co)) (fun _ hk => hk.2) (.slice cr bJ.length cp)) (fun _ h_ => h_.1))) hb); have cg := bu (Kd.N_below (by (with_reducible repeat (first | apply Kd.N_alloc | apply Kd.N_drewN | apply Kd.N_drew)); exact (Kd.N_mono (Kd.N_far (p := ⟨bA, 1, none⟩) (Kd.N_far (p := ⟨bA, 0, none⟩) (Kd.N_mono bI.out (fun k_ hk => (⟨hk, hk.1.2.1⟩ : _ ∧ k_ ≠ bA))) (fun _ hk => hk.2) (.slice Ao16 bG.length co)) (fun _ hk => hk.2) (.slice cr bJ.length cp)) (fun _ h_ => h_.1))) hb); have ch := bu (Kd.R_below (by (with_reducible repeat (first | apply Kd.R_alloc | apply Kd.R_drewN | apply Kd.R_drew)); exact (Kd.R_mono (Kd.R_far (p := ⟨bA, 1, none⟩) (Kd.R_far (p := ⟨bA, 0, none⟩) (Kd.R_types ca.out bz.out (by decide)) (fun _ hk => hk.2) (.slice Ao16 bG.length co)) (fun _ hk => hk.2) (.slice cr bJ.length cp)) (fun _ h_ => h_.1))) hb); have ci := bu (bl (g := bA) (o := .cells #[.slice Ao16 bG.length co, .slice cr bJ.length cp, .int .i64 bH] 27 (0, 0)) (by (with_reducible repeat (first | refine a4 ?_ _ | refine bh ?_ | refine a5 ?_ _)); refine blk_put (cs := #[.slice Ao16 bG.length co, .slice bV bO.length bW, .int .i64 bH]) ?_ 1 _ rfl; (with_reducible repeat (first | refine a4 ?_ _ | refine bh ?_ | refine a5 ?_ _)); refine blk_put (cs := #[.slice bX bR.length bY, .slice bV bO.length bW, .int .i64 bH]) ?_ 0 _ rfl; (with_reducible repeat (first | refine a4 ?_ _ | refine bh ?_ | refine a5 ?_ _)); exact bz.out) hb); have cj := bu (bl (g := bC) (o := .cells #[.string bN, .string bT, .bool bU, .slice cd bQ.length ce] 53 (0, 0)) (by (with_reducible repeat (first | refine a4 ?_ _ | refine bh ?_ | refine a5 ?_ _)); refine blk_far ?_ bM.out _; (with_reducible repeat (first | refine a4 ?_ _ | refine bh ?_ | refine a5 ?_ _)); refine blk_far ?_ bM.out _; (with_reducible repeat (first | refine a4 ?_ _ | refine bh ?_ | refine a5 ?_ _)); exact bB.out) hb); have cn := bu (bl (g := bD) (o := .cells #[.slice none 0 0, .slice none 0 0, .int .i64 0] 27 (0, 0)) (by (with_reducible repeat (first | refine a4 ?_ _ | refine bh ?_ | refine a5 ?_ _)); refine blk_far ?_ bL.out _; (with_reducible repeat (first | refine a4 ?_ _ | refine bh ?_ | refine a5 ?_ _)); refine blk_far ?_ bL.out _; (with_reducible repeat (first | refine a4 ?_ _ | refine bh ?_ | refine a5 ?_ _)); exact bF.out) hb); have cu := bu (below_step (by repeat (first | (with_reducible first | exact HB.out | apply bm | apply bj | apply bn | refine bi ?_ bK.out | refine bi ?_ bP.out | refine bi ?_ bZ.out) | exact HB.out)) hb); clear bE; clear bI; clear ca; clear bz; clear bB; clear bF; clear HB; have bE := cf; have bI := cg; have ca := ch; have bz := ci; have bB := cj; have bF := cn; have HB := cu; clear cf cg ch ci cj cn cu; (try clear hb); (try clear hb2); (try clear hk); (try clear hi); have hcz26_0 : w25.cell? ⟨bA, 0, none⟩ = some (.slice Ao16 bG.length co) := (bo bz.out 0).trans rfl; have hcz26_1 : w25.cell? ⟨bA, 1, none⟩ = some (.slice cr bJ.length cp) := (bo bz.out 1).trans rfl; have hcz26_2 : w25.cell? ⟨bA, 2, none⟩ = some (.int .i64 bH) := (bo bz.out 2).trans rfl; have hfz26_0 := bk bz.out 0; have hfz26_1 := bk bz.out 1; have hfz26_2 := bk bz.out 2; have hcz27_0 : w25.cell? ⟨bC, 0, none⟩ = some (.string bN) := (bo bB.out 0).trans rfl; have hcz27_1 : w25.cell? ⟨bC, 1, none⟩ = some (.string bT) := (bo bB.out 1).trans rfl; have hcz27_2 : w25.cell? ⟨bC, 2, none⟩ = some (.bool bU) := (bo bB.out 2).trans rfl; have hcz27_3 : w25.cell? ⟨bC, 3, none⟩ = some (.slice cd bQ.length ce) := (bo bB.out 3).trans rfl; have hfz27_0 := bk bB.out 0; have hfz27_1 := bk bB.out 1; have hfz27_2 := bk bB.out 2; have hfz27_3 := bk bB.out 3; have p9 : 0 ≤ (bS : Int) := of_decide_eq_true (by first | (with_reducible assumption) | assumption); have q9 : (bS : Int) < ((bG.length : Int) : Int) := of_decide_eq_true (by first | (with_reducible assumption) | assumption); obtain ⟨go9, co9, eo9, gb9, gl9, cl9, HG9⟩ := Kd.N_form bI.out (by omega); (first | cases eo9 | (injection eo9 with ea_ en_ ec_; (first | subst ea_ | (injection ea_ with ea_; subst ea_)); subst ec_; clear en_)); have GB9 := bu gb9; have GG9 := bu HG9; clear gb9 gl9 HG9; obtain ⟨ce9, hcl9, hM9, hcc9, hfr9⟩ := Kd.N_elem bI.out z53 (bS : Int) p9 q9; obtain ⟨ua9_3, uc9_3, rfl, ul9_3, ge9_3⟩ := k53_openF hM9; have hx9_0 : w25.cell? ⟨go9, (bS : Int).toNat * 4, none⟩ = some (.string ((rd_T53 bG bS).f0)) := hcc9 0 _ rfl; have hx9_1 : w25.cell? ⟨go9, (bS : Int).toNat * 4 + 1, none⟩ = some (.string ((rd_T53 bG bS).f1)) := hcc9 1 _ rfl; have hx9_2 : w25.cell? ⟨go9, (bS : Int).toNat * 4 + 2, none⟩ = some (.bool ((rd_T53 bG bS).f2)) := hcc9 2 _ rfl; have hx9_3 : w25.cell? ⟨go9, (bS : Int).toNat * 4 + 3, none⟩ = some (.slice ua9_3 ((rd_T53 bG bS).f3).length uc9_3) := hcc9 3 _ rfl; have hf9_0 : w25.frozen? ⟨go9, (bS : Int).toNat * 4, none⟩ = false := hfr9 0; have hf9_1 : w25.frozen? ⟨go9, (bS : Int).toNat * 4 + 1, none⟩ = false := hfr9 1; have hf9_2 : w25.frozen? ⟨go9, (bS : Int).toNat * 4 + 2, none⟩ = false := hfr9 2; have hf9_3 : w25.frozen? ⟨go9, (bS : Int).toNat * 4 + 3, none⟩ = false := hfr9 3; clear hcl9 hcc9 hfr9 hM9; replace p9 := eq_true p9; replace q9 := eq_true q9; have n_ := bu (Kd.N_mono (ok' := (fun k_ => (ck k_ ∨ w.heap.size ≤ k_) ∧ some k_ ≠ (.slice cr bJ.length cp : Value).ownBlock ∧ k_ ≠ bA ∧ k_ ≠ bC ∧ k_ ≠ bD)) bI.out (fun k_ hk => ⟨hk.1.1, ⟨hk.2, ⟨hk.1.2.1, ⟨hk.1.2.2.1, hk.1.2.2.2⟩⟩⟩⟩)); clear bI; have bI := n_; clear n_; have HX28 := bu (show Kd.N k53 53 w25 w.heap.size (fun k_ => (ck k_ ∨ w.heap.size ≤ k_) ∧ some k_ ≠ (.slice cr bJ.length cp : Value).ownBlock ∧ k_ ≠ bA ∧ k_ ≠ bC ∧ k_ ≠ bD) (.slice (some ⟨go9, 0, none⟩) bG.length co) bG from (by (with_reducible repeat (first | apply Kd.N_alloc | apply Kd.N_drewN | apply Kd.N_drew)); exact bI.out)); obtain ⟨ce28, hcl28, hM28, hcc28, hfr28⟩ := Kd.N_elem HX28.out z53 (bS : Int) (of_decide_eq_true (by first | (with_reducible assumption) | assumption)) (by have h_ : (bS : Int) < ((bG.length : Int) : Int) := of_decide_eq_true (by first | (with_reducible assumption) | assumption); first | exact h_ | (have e_ := (Kd.N_reads' bI.out).1; omega) | simpa using h_); obtain ⟨ua28_3, uc28_3, rfl, ul28_3, ge28_3⟩ := k53_openF hM28; have HP28 := Kd.N_seg HX28.out (bS : Int) (of_decide_eq_true (by first | (with_reducible assumption) | assumption)) (by have h_ : (bS : Int) < ((bG.length : Int) : Int) := of_decide_eq_true (by first | (with_reducible assumption) | assumption); first | exact h_ | (have e_ := (Kd.N_reads' bI.out).1; omega) | simpa using h_) (seg := [.string bN, .string bT, .bool bU, .slice cd bQ.length ce]) (j := 0) hcl28 hcc28 (show 4 ≤ 4 from by decide) (x' := (⟨bN, bT, bU, bQ⟩ : S53)) (k53_mkF _ _ (⟨bN, bT, bU, bQ⟩ : S53) (Kd.V_reads' (Kd.V_mono (ok' := (fun k_ => ((fun k_ => (ck k_ ∨ w.heap.size ≤ k_) ∧ some k_ ≠ (.slice cr bJ.length cp : Value).ownBlock ∧ k_ ≠ bA ∧ k_ ≠ bC ∧ k_ ≠ bD)) k_ ∧ k_ ≠ go9)) (bE.out) (fun k_ hk => ⟨⟨hk.1.1.1.1.1, ⟨hk.2, ⟨hk.1.1.1.1.2, ⟨hk.1.1.1.2, hk.1.1.2⟩⟩⟩⟩, fun e_ => (hk.1.2) (by rw [e_]; rfl)⟩))).2.1 (Kd.V_F (Kd.V_mono (ok' := (fun k_ => ((fun k_ => (ck k_ ∨ w.heap.size ≤ k_) ∧ some k_ ≠ (.slice cr bJ.length cp : Value).ownBlock ∧ k_ ≠ bA ∧ k_ ≠ bC ∧ k_ ≠ bD)) k_ ∧ k_ ≠ go9)) (bE.out) (fun k_ hk => ⟨⟨hk.1.1.1.1.1, ⟨hk.2, ⟨hk.1.1.1.1.2, ⟨hk.1.1.1.2, hk.1.1.2⟩⟩⟩⟩, fun e_ => (hk.1.2) (by rw [e_]; rfl)⟩)))) (fun _ hk => hk); have hx28_0 := hcc28 0 _ rfl; (try simp only [show (k53).sz = 4 from rfl, Nat.mul_one, Nat.add_zero] at hx28_0); have hf28_0 := hfr28 0; (try simp only [show (k53).sz = 4 from rfl, Nat.mul_one, Nat.add_zero] at hf28_0); have hx28_1 := hcc28 1 _ rfl; (try simp only [show (k53).sz = 4 from rfl, Nat.mul_one, Nat.add_zero] at hx28_1); have hf28_1 := hfr28 1; (try simp only [show (k53).sz = 4 from rfl, Nat.mul_one, Nat.add_zero] at hf28_1); have hx28_2 := hcc28 2 _ rfl; (try simp only [show (k53).sz = 4 from rfl, Nat.mul_one, Nat.add_zero] at hx28_2); have hf28_2 := hfr28 2; (try simp only [show (k53).sz = 4 from rfl, Nat.mul_one, Nat.add_zero] at hf28_2); have hx28_3 := hcc28 3 _ rfl; (try simp only [show (k53).sz = 4 from rfl, Nat.mul_one, Nat.add_zero] at hx28_3); have hf28_3 := hfr28 3; (try simp only [show (k53).sz = 4 from rfl, Nat.mul_one, Nat.add_zero] at hf28_3); clear hcl28 hcc28 hfr28 hM28) | ((with_reducible refine gate_store (t := 53) (p := 32) rfl ?_); refine store_event (t := 53) (p := 32) (v := ?vo_w29) (w1 := ((((w25.setCell ⟨go9, (bS : Int).toNat * 4, none⟩ (.string bN)).setCell ⟨go9, (bS : Int).toNat * 4 + 1, none⟩ (.string bT)).setCell ⟨go9, (bS : Int).toNat * 4 + 2, none⟩ (.bool bU)).setCell ⟨go9, (bS : Int).toNat * 4 + 3, none⟩ (.slice cd bQ.length ce))) ?hg ?ho ?hn ?hr ?_; (case ho => rfl); (case hg => rfl); (case hn => rfl); (case hr => first | (go_simp; done) | (go_simp; rfl)); intro w29 hw; have hg : w25.grownBy w29 (some go9) := (by rw [hw]; exact HP28.2); have hp_ : Kd.N k53 53 w29 w.heap.size (fun k_ => (ck k_ ∨ w.heap.size ≤ k_) ∧ some k_ ≠ (.slice cr bJ.length cp : Value).ownBlock ∧ k_ ≠ bA ∧ k_ ≠ bC ∧ k_ ≠ bD) (.slice (some ⟨go9, 0, none⟩) bG.length co) y118 := (by rw [hw, Ny118.out]; exact HP28.1); clear HP28; have cf := bu (Kd.V_afterv (v := (.slice (some ⟨go9, 0, none⟩) bG.length co)) (v1 := (.slice (some ⟨go9, 0, none⟩) bG.length co)) (ok := (fun k_ => (ck k_ ∨ w.heap.size ≤ k_) ∧ some k_ ≠ (.slice cr bJ.length cp : Value).ownBlock ∧ k_ ≠ bA ∧ k_ ≠ bC ∧ k_ ≠ bD)) (by (with_reducible repeat (first | apply Kd.V_alloc | apply Kd.V_drewN | apply Kd.V_drew)); exact Kd.V_mono bE.out (fun _ hk => ⟨⟨hk.1.1.1.1.1, ⟨hk.2, ⟨hk.1.1.1.1.2, ⟨hk.1.1.1.2, hk.1.1.2⟩⟩⟩⟩, hk.1.2⟩)) hg (.inl rfl)); have cg := bu (blk_grown (g := bA) (o := .cells #[.slice (some ⟨go9, 0, none⟩) bG.length co, .slice cr bJ.length cp, .int .i64 bH] 27 (0, 0)) (by (with_reducible repeat (first | refine a4 ?_ _ | refine bh ?_ | refine a5 ?_ _)); exact bz.out) hg (Kd.N_ne bI.out bz.out (by decide))); have ch := bu (blk_grown (g := bC) (o := .cells #[.string bN, .string bT, .bool bU, .slice cd bQ.length ce] 53 (0, 0)) (by (with_reducible repeat (first | refine a4 ?_ _ | refine bh ?_ | refine a5 ?_ _)); exact bB.out) hg (Kd.N_away bI.out (fun _ hk => hk.2.2.2.1))); have ci := bu (blk_grown (g := bD) (o := .cells #[.slice none 0 0, .slice none 0 0, .int .i64 0] 27 (0, 0)) (by (with_reducible repeat (first | refine a4 ?_ _ | refine bh ?_ | refine a5 ?_ _)); exact bF.out) hg (Kd.N_ne bI.out bF.out (by decide))); have cj := bu (hp_); have cn := bu (Kd.R_over' (v := (.slice (some ⟨go9, 0, none⟩) bG.length co)) (by (with_reducible repeat (first | apply Kd.R_alloc | apply Kd.R_drewN | apply Kd.R_drew)); exact ca.out) (Kd.N_typed bI.out) (by decide) hg); have cu := bu ((by rw [hw]; exact bi (bi (bi (bi (HB.out) GB9.out) GB9.out) GB9.out) GB9.out : Below w.heap.size w w29)); clear bE; clear bz; clear bB; clear bF; clear bI; clear ca; clear HB; have bE := cf; have bz := cg; have bB := ch; have bF := ci; have bI := cj; have ca := cn; have HB := cu; clear cf cg ch ci cj cn cu; clear hg hw hp_; have hcz30_0 : w29.cell? ⟨bA, 0, none⟩ = some (.slice (some ⟨go9, 0, none⟩) bG.length co) := (bo bz.out 0).trans rfl; have hcz30_1 : w29.cell? ⟨bA, 1, none⟩ = some (.slice cr bJ.length cp) := (bo bz.out 1).trans rfl; have hcz30_2 : w29.cell? ⟨bA, 2, none⟩ = some (.int .i64 bH) := (bo bz.out 2).trans rfl; have hfz30_0 := bk bz.out 0; have hfz30_1 := bk bz.out 1; have hfz30_2 := bk bz.out 2; have hcz31_0 : w29.cell? ⟨bD, 0, none⟩ = some (.slice none 0 0) := (bo bF.out 0).trans rfl; have hcz31_1 : w29.cell? ⟨bD, 1, none⟩ = some (.slice none 0 0) := (bo bF.out 1).trans rfl; have hcz31_2 : w29.cell? ⟨bD, 2, none⟩ = some (.int .i64 0) := (bo bF.out 2).trans rfl; have hfz31_0 := bk bF.out 0; have hfz31_1 := bk bF.out 1; have hfz31_2 := bk bF.out 2))
    refine bodyPost_ret (results_ct rfl _ _ bD 27 #[.slice (some ⟨go9, 0, none⟩) bG.length co, .slice cr bJ.length cp, .int .i64 bH] (0, 0) _ rfl (by (with_reducible repeat (first | refine a4 ?_ _ | refine bh ?_ | refine a5 ?_ _)); refine blk_put (cs := #[.slice (some ⟨go9, 0, none⟩) bG.length co, .slice cr bJ.length cp, .int .i64 0]) ?_ 2 _ rfl; (with_reducible repeat (first | refine a4 ?_ _ | refine bh ?_ | refine a5 ?_ _)); refine blk_put (cs := #[.slice (some ⟨go9, 0, none⟩) bG.length co, .slice none 0 0, .int .i64 0]) ?_ 1 _ rfl; (with_reducible repeat (first | refine a4 ?_ _ | refine bh ?_ | refine a5 ?_ _)); refine blk_put (cs := #[.slice none 0 0, .slice none 0 0, .int .i64 0]) ?_ 0 _ rfl; (with_reducible repeat (first | refine a4 ?_ _ | refine bh ?_ | refine a5 ?_ _)); exact bF.out) Tryd.underlying27 rfl (by kernel_rfl)) rfl ?_
    exact ⟨_, _, by first | rfl | (simp [errW_none, errW_some] <;> rfl) | (simp [*, errW_none, errW_some] <;> rfl), by (with_reducible repeat (first | apply Kd.N_alloc | apply Kd.N_drewN | apply Kd.N_drew)); exact Kd.N_mono (Kd.N_far (p := ⟨bD, 2, none⟩) (Kd.N_far (p := ⟨bD, 1, none⟩) (Kd.N_far (p := ⟨bD, 0, none⟩) (Kd.N_mono bI.out (fun k_ hk => (⟨hk, hk.2.2.2.2⟩ : _ ∧ k_ ≠ bD))) (fun _ hk => hk.2) (.slice (some ⟨go9, 0, none⟩) bG.length co)) (fun _ hk => hk.2) (.slice cr bJ.length cp)) (fun _ hk => hk.2) (.int .i64 bH)) (fun _ hk => ⟨hk.1.1, hk.1.2.1⟩), by (with_reducible repeat (first | apply Kd.R_alloc | apply Kd.R_drewN | apply Kd.R_drew)); exact Kd.R_mono (Kd.R_far (p := ⟨bD, 2, none⟩) (Kd.R_far (p := ⟨bD, 1, none⟩) (Kd.R_far (p := ⟨bD, 0, none⟩) (Kd.R_types ca.out bF.out (by decide)) (fun _ hk => hk.2) (.slice (some ⟨go9, 0, none⟩) bG.length co)) (fun _ hk => hk.2) (.slice cr bJ.length cp)) (fun _ hk => hk.2) (.int .i64 bH)) (fun _ hk => hk.1.1), by repeat (first | (with_reducible first | exact HB.out | apply bm | apply bj | apply bn | refine bi ?_ bK.out | refine bi ?_ bP.out | refine bi ?_ bZ.out) | exact HB.out)⟩
   ·
    rw [if_neg c8] at H
    exact absurd H (by simp)
  ·
   rw [if_neg c7] at H
   exact absurd H (by simp)
 ·
  rw [if_neg c6] at H
  have c6b0 : decide (0 ≤ bS) = false := decide_eq_false c6
  clear c6
  by_cases c32 : (bG.length : Int) ≥ 1024
  ·
   rw [if_pos c32] at H
   have c32b0 : decide (1024 ≤ (bG.length : Int)) = true := decide_eq_true c32
   have c32b1 : decide (1024 ≤ bG.length) = true := decide_eq_true (by omega)
   clear c32
   simp only [Option.some.injEq, Prod.mk.injEq] at H
   obtain ⟨rfl, rfl, rfl, rfl⟩ := H
   go_enter Tryd.func46, Tryd.ntmps46
   try go_wp2_with (first | ((with_reducible refine gate_dst (N := 2) rfl ?_); refine box_event ?hg (N := 2) ?hd (cs := #[.slice bX bR.length bY, .slice bV bO.length bW, .int .i64 bH]) (t := 27) ?hr ?_; (case hd => rfl); (case hg => rfl); (case hr => first | (go_simp; done) | (go_simp; rfl)); intro bA hg w33 hbox hb; have cf := bu (Kd.V_below (Kd.V_elderB (by (with_reducible repeat (first | apply Kd.V_alloc | apply Kd.V_drewN | apply Kd.V_drew)); exact bE.out) bA (Nat.le_of_eq hg.symm)) hb); have cg := bu (below_step (by repeat (first | (with_reducible first | exact HB.out | apply bm | apply bj | apply bn) | exact HB.out)) hb); have ch := bu (hbox); have ci := bu ((by rw [hg]; exact (bs (by repeat (first | (with_reducible first | exact HB.out | apply bm | apply bj | apply bn) | exact HB.out))) : w.heap.size ≤ bA)); have cj := bu ((by rw [hg]; exact (bs (by repeat (first | (with_reducible first | exact HB.out | apply bm | apply bj | apply bn) | exact HB.out))) : w.heap.size ≤ bA)); clear bE; clear HB; have bE := cf; have HB := cg; have bz := ch; have GW108 := ci; have bK := cj; clear cf cg ch ci cj; clear hb hbox hg) | ((with_reducible refine gate_dst (N := 3) rfl ?_); refine box_event ?hg (N := 3) ?hd (cs := #[.string bN, .string bT, .bool bU, .slice cd bQ.length ce]) (t := 53) ?hr ?_; (case hd => rfl); (case hg => rfl); (case hr => first | (go_simp; done) | (go_simp; rfl)); intro bC hg w34 hbox hb; have cf := bu (Kd.V_below (Kd.V_elderB (by (with_reducible repeat (first | apply Kd.V_alloc | apply Kd.V_drewN | apply Kd.V_drew)); exact bE.out) bC (Nat.le_of_eq hg.symm)) hb); have cg := bu (bl (g := bA) (o := .cells #[.slice bX bR.length bY, .slice bV bO.length bW, .int .i64 bH] 27 (0, 0)) (by (with_reducible repeat (first | refine a4 ?_ _ | refine bh ?_ | refine a5 ?_ _)); exact bz.out) hb); have ch := bu (below_step (by repeat (first | (with_reducible first | exact HB.out | apply bm | apply bj | apply bn | refine bi ?_ bK.out) | exact HB.out)) hb); have ci := bu (hbox); have cj := bu ((by rw [hg]; exact (bs (by repeat (first | (with_reducible first | exact HB.out | apply bm | apply bj | apply bn | refine bi ?_ bK.out) | exact HB.out))) : w.heap.size ≤ bC)); have cn := bu ((by rw [hg]; exact (bs (by repeat (first | (with_reducible first | exact HB.out | apply bm | apply bj | apply bn | refine bi ?_ bK.out) | exact HB.out))) : w.heap.size ≤ bC)); have cu := bu ((by rw [hg]; exact Nat.ne_of_lt (blk_lt (g := bA) (o := .cells #[.slice bX bR.length bY, .slice bV bO.length bW, .int .i64 bH] 27 (0, 0)) (by (with_reducible repeat (first | refine a4 ?_ _ | refine bh ?_ | refine a5 ?_ _)); exact bz.out)) : bA ≠ bC)); have n7_ := bu ((by rw [hg]; exact Nat.ne_of_gt (blk_lt (g := bA) (o := .cells #[.slice bX bR.length bY, .slice bV bO.length bW, .int .i64 bH] 27 (0, 0)) (by (with_reducible repeat (first | refine a4 ?_ _ | refine bh ?_ | refine a5 ?_ _)); exact bz.out)) : bC ≠ bA)); clear bE; clear bz; clear HB; have bE := cf; have bz := cg; have HB := ch; have bB := ci; have GW109 := cj; have bP := cn; have cb := cu; have bM := n7_; clear cf cg ch ci cj cn cu n7_; clear hb hbox hg) | ((with_reducible refine gate_dst (N := 4) rfl ?_); refine box_event ?hg (N := 4) ?hd (cs := #[.slice none 0 0, .slice none 0 0, .int .i64 0]) (t := 27) ?hr ?_; (case hd => rfl); (case hg => rfl); (case hr => first | (go_simp; done) | (go_simp; rfl)); intro bD hg w35 hbox hb; have cf := bu (Kd.V_below (Kd.V_elderB (by (with_reducible repeat (first | apply Kd.V_alloc | apply Kd.V_drewN | apply Kd.V_drew)); exact bE.out) bD (Nat.le_of_eq hg.symm)) hb); have cg := bu (bl (g := bA) (o := .cells #[.slice bX bR.length bY, .slice bV bO.length bW, .int .i64 bH] 27 (0, 0)) (by (with_reducible repeat (first | refine a4 ?_ _ | refine bh ?_ | refine a5 ?_ _)); exact bz.out) hb); have ch := bu (bl (g := bC) (o := .cells #[.string bN, .string bT, .bool bU, .slice cd bQ.length ce] 53 (0, 0)) (by (with_reducible repeat (first | refine a4 ?_ _ | refine bh ?_ | refine a5 ?_ _)); exact bB.out) hb); have ci := bu (below_step (by repeat (first | (with_reducible first | exact HB.out | apply bm | apply bj | apply bn | refine bi ?_ bK.out | refine bi ?_ bP.out) | exact HB.out)) hb); have cj := bu (hbox); have cn := bu ((by rw [hg]; exact (bs (by repeat (first | (with_reducible first | exact HB.out | apply bm | apply bj | apply bn | refine bi ?_ bK.out | refine bi ?_ bP.out) | exact HB.out))) : w.heap.size ≤ bD)); have cu := bu ((by rw [hg]; exact (bs (by repeat (first | (with_reducible first | exact HB.out | apply bm | apply bj | apply bn | refine bi ?_ bK.out | refine bi ?_ bP.out) | exact HB.out))) : w.heap.size ≤ bD)); have n7_ := bu ((by rw [hg]; exact Nat.ne_of_lt (blk_lt (g := bA) (o := .cells #[.slice bX bR.length bY, .slice bV bO.length bW, .int .i64 bH] 27 (0, 0)) (by (with_reducible repeat (first | refine a4 ?_ _ | refine bh ?_ | refine a5 ?_ _)); exact bz.out)) : bA ≠ bD)); have n8_ := bu ((by rw [hg]; exact Nat.ne_of_gt (blk_lt (g := bA) (o := .cells #[.slice bX bR.length bY, .slice bV bO.length bW, .int .i64 bH] 27 (0, 0)) (by (with_reducible repeat (first | refine a4 ?_ _ | refine bh ?_ | refine a5 ?_ _)); exact bz.out)) : bD ≠ bA)); have n9_ := bu ((by rw [hg]; exact Nat.ne_of_lt (blk_lt (g := bC) (o := .cells #[.string bN, .string bT, .bool bU, .slice cd bQ.length ce] 53 (0, 0)) (by (with_reducible repeat (first | refine a4 ?_ _ | refine bh ?_ | refine a5 ?_ _)); exact bB.out)) : bC ≠ bD)); have n10_ := bu ((by rw [hg]; exact Nat.ne_of_gt (blk_lt (g := bC) (o := .cells #[.string bN, .string bT, .bool bU, .slice cd bQ.length ce] 53 (0, 0)) (by (with_reducible repeat (first | refine a4 ?_ _ | refine bh ?_ | refine a5 ?_ _)); exact bB.out)) : bD ≠ bC)); clear bE; clear bz; clear bB; clear HB; have bE := cf; have bz := cg; have bB := ch; have HB := ci; have bF := cj; have GW110 := cn; have bZ := cu; have cc := n7_; have bL := n8_; have cv := n9_; have cw := n10_; clear cf cg ch ci cj cn cu n7_ n8_ n9_ n10_; clear hb hbox hg))
   have cf := bu (Kd.V_drew bE.out)
   have cg := bu (bh bz.out)
   have ch := bu (bh bB.out)
   have ci := bu (bh bF.out)
   have cj := bu (bn HB.out)
   clear bE
   clear bz
   clear bB
   clear bF
   clear HB
   have bE := cf
   have bz := cg
   have bB := ch
   have bF := ci
   have HB := cj
   clear cf cg ch ci cj
   refine start_ (n := 10) (S := fun w' => w'.cell? ⟨bA, 0, none⟩ = some (.slice bX bR.length bY) ∧ w'.cell? ⟨bA, 1, none⟩ = some (.slice bV bO.length bW) ∧ w'.cell? ⟨bA, 2, none⟩ = some (.int .i64 bH)) (ds := [7, 9]) #[false, false, false, false, false, false, false, false, false, false] (by kernel_rfl) rfl rfl ⟨(bo bz.out 0).trans rfl, (bo bz.out 1).trans rfl, (bo bz.out 2).trans rfl⟩ (fun hHeld => ?_); refine with_tabW vars_Store_with.tab1 vars_Store_with.bits1 (fun HT_ HW_ => ?_)
   generalize w35.drew = w36 at bE bz bB bF HB hHeld ⊢
   refine pure_ (i := 0) (N := some 7) (v := ?_) (a' := ?_) #[true, false, false, false, false, false, false, false, false, false] rfl rfl (any_of HT_.out (by kernel_rfl)) (fun _ _ _ h => h) (Or.inl ⟨by rfl, ?_⟩) ?_ ?_
   rotate_left
   ·
    intro w'
    go_simp
    with_reducible rfl
   rotate_left
   ·
    simp only [Act.put, List.setIfInBounds_toArray, List.set_cons_zero, List.set_cons_succ, i64_w, i32_w]
    rfl
   refine pure_ (i := 3) (N := some 10) (v := ?_) (a' := ?_) #[true, false, false, true, false, false, false, false, false, false] rfl rfl (any_of HT_.out (by kernel_rfl)) (fun _ _ _ h => h) (Or.inl ⟨by rfl, ?_⟩) ?_ ?_
   rotate_left
   ·
    intro w'
    go_simp
    with_reducible rfl
   rotate_left
   ·
    simp only [Act.put, List.setIfInBounds_toArray, List.set_cons_zero, List.set_cons_succ, i64_w, i32_w]
    rfl
   refine take_ (i := 1) (N := some 8) (v := ?_) (a' := ?_) #[true, true, false, true, false, false, false, false, false, false] rfl rfl (take_ofW HT_.out HW_.out (by kernel_rfl)) (fun _ _ _ h => h) (Or.inl ⟨by rfl, ?_⟩) hHeld ?_ ?_
   rotate_left
   ·
    rintro w' ⟨s0, s1, s2⟩
    go_simp
    with_reducible rfl
   rotate_left
   ·
    simp only [Act.put, List.setIfInBounds_toArray, List.set_cons_zero, List.set_cons_succ, i64_w, i32_w]
    rfl
   refine take_ (i := 4) (N := some 11) (v := ?_) (a' := ?_) #[true, true, false, true, true, false, false, false, false, false] rfl rfl (take_ofW HT_.out HW_.out (by kernel_rfl)) (fun _ _ _ h => h) (Or.inl ⟨by rfl, ?_⟩) hHeld ?_ ?_
   rotate_left
   ·
    rintro w' ⟨s0, s1, s2⟩
    go_simp
    with_reducible rfl
   rotate_left
   ·
    simp only [Act.put, List.setIfInBounds_toArray, List.set_cons_zero, List.set_cons_succ, i64_w, i32_w]
    rfl
   refine one_ (i := 2) (N := some 9) #[true, true, true, true, true, false, false, false, false, false] rfl rfl (one_of HT_.out (by kernel_rfl)) (by decide) (fun K hK => ?_)
   refine goes_ Tryd.func21 (by kernel_rfl) rfl #[.slice bX bR.length bY] (by rfl) rfl rfl (by (try simp only [List.map_toArray, List.map_cons, List.map_nil]); first | done | rfl | (simp only [List.length_drop, List.length_take]; rfl)) ?_
   with_reducible refine (vars_own.calls _ _ bR bG _ ?cl ?cm A3.out).mono ?_
   (case cl => repeat (first | exact (br HR0_0.out HB.out) | (with_reducible refine bp ?_ _) | (with_reducible refine bq ?_ _) | (with_reducible refine Kd.C_drew ?_)))
   (case cm => exact HC0_0.out)
   rintro e w37 ⟨v112, rfl, cz, hb⟩
   refine ⟨_, rfl, ?_⟩
   have cf := bu (Kd.V_elder' (by (with_reducible repeat (first | apply Kd.V_alloc | apply Kd.V_drewN | apply Kd.V_drew)); exact bE.out) (Kd.N_base cz) hb)
   have cg := bu (Kd.N_lower (Kd.N_mono (ok' := fun k_ => (ck k_ ∨ w.heap.size ≤ k_) ∧ k_ ≠ bA ∧ k_ ≠ bC ∧ k_ ≠ bD) cz (fun k_ hk_ => ⟨(.inr (Nat.le_trans (bs (by repeat (first | (with_reducible first | exact HB.out | apply bm | apply bj | apply bn | refine bi ?_ bK.out | refine bi ?_ bP.out | refine bi ?_ bZ.out) | exact HB.out))) hk_)), (Kd.freshB (g := bA) (o := .cells #[.slice bX bR.length bY, .slice bV bO.length bW, .int .i64 bH] 27 (0, 0)) (by (with_reducible repeat (first | refine a4 ?_ _ | refine bh ?_ | refine a5 ?_ _)); exact bz.out) k_ hk_), (Kd.freshB (g := bC) (o := .cells #[.string bN, .string bT, .bool bU, .slice cd bQ.length ce] 53 (0, 0)) (by (with_reducible repeat (first | refine a4 ?_ _ | refine bh ?_ | refine a5 ?_ _)); exact bB.out) k_ hk_), (Kd.freshB (g := bD) (o := .cells #[.slice none 0 0, .slice none 0 0, .int .i64 0] 27 (0, 0)) (by (with_reducible repeat (first | refine a4 ?_ _ | refine bh ?_ | refine a5 ?_ _)); exact bF.out) k_ hk_)⟩)) (bs (by repeat (first | (with_reducible first | exact HB.out | apply bm | apply bj | apply bn | refine bi ?_ bK.out | refine bi ?_ bP.out | refine bi ?_ bZ.out) | exact HB.out))))
   have ch := bu (bl (g := bA) (o := .cells #[.slice bX bR.length bY, .slice bV bO.length bW, .int .i64 bH] 27 (0, 0)) (by (with_reducible repeat (first | refine a4 ?_ _ | refine bh ?_ | refine a5 ?_ _)); exact bz.out) hb)
   have ci := bu (bl (g := bC) (o := .cells #[.string bN, .string bT, .bool bU, .slice cd bQ.length ce] 53 (0, 0)) (by (with_reducible repeat (first | refine a4 ?_ _ | refine bh ?_ | refine a5 ?_ _)); exact bB.out) hb)
   have cj := bu (bl (g := bD) (o := .cells #[.slice none 0 0, .slice none 0 0, .int .i64 0] 27 (0, 0)) (by (with_reducible repeat (first | refine a4 ?_ _ | refine bh ?_ | refine a5 ?_ _)); exact bF.out) hb)
   have cn := bu (below_step (by repeat (first | (with_reducible first | exact HB.out | apply bm | apply bj | apply bn | refine bi ?_ bK.out | refine bi ?_ bP.out | refine bi ?_ bZ.out) | exact HB.out)) hb)
   clear bE
   clear bz
   clear bB
   clear bF
   clear HB
   have bE := cf
   have bI := cg
   have bz := ch
   have bB := ci
   have bF := cj
   have HB := cn
   clear cf cg ch ci cj cn
   (try clear hb)
   (try clear hb2)
   (try clear hk)
   (try clear hi)
   (try clear cz)
   refine hK.out _ _ ⟨(bo bz.out 0).trans rfl, (bo bz.out 1).trans rfl, (bo bz.out 2).trans rfl⟩ (fun hHeld => ?_)
   clear hK K
   refine norm_ (a' := ?_) ?_ ?_
   rotate_left
   ·
    show Act.put _ (some 9) _ = _
    simp only [Act.put, List.setIfInBounds_toArray, List.set_cons_zero, List.set_cons_succ, i64_w, i32_w]
    rfl
   refine pure_ (i := 6) (N := some 13) (v := ?_) (a' := ?_) #[true, true, true, true, true, false, true, false, false, false] rfl rfl (any_of HT_.out (by kernel_rfl)) (fun _ _ _ h => h) (Or.inl ⟨by rfl, ?_⟩) ?_ ?_
   rotate_left
   ·
    intro w'
    go_simp
    with_reducible rfl
   rotate_left
   ·
    simp only [Act.put, List.setIfInBounds_toArray, List.set_cons_zero, List.set_cons_succ, i64_w, i32_w]
    rfl
   refine one_ (i := 5) (N := some 12) #[true, true, true, true, true, true, true, false, false, false] rfl rfl (one_of HT_.out (by kernel_rfl)) (by decide) (fun K hK => ?_)
   refine goes_ Tryd.func22 (by kernel_rfl) rfl #[.slice bV bO.length bW] (by rfl) rfl rfl (by (try simp only [List.map_toArray, List.map_cons, List.map_nil]); first | done | rfl | (simp only [List.length_drop, List.length_take]; rfl)) ?_
   with_reducible refine (slices_Clone_string_string.calls _ _ bO bJ _ ?cl ?cm A4.out).mono ?_
   (case cl => repeat (first | exact (br HR0_1.out HB.out) | (with_reducible refine bp ?_ _) | (with_reducible refine bq ?_ _) | (with_reducible refine Kd.C_drew ?_)))
   (case cm => exact HC0_1.out)
   rintro e w38 ⟨v115, rfl, cz, hb⟩
   refine ⟨_, rfl, ?_⟩
   have cf := bu (Kd.V_elder' (by (with_reducible repeat (first | apply Kd.V_alloc | apply Kd.V_drewN | apply Kd.V_drew)); exact bE.out) (Kd.R_base cz) hb)
   have cg := bu (Kd.N_elder' (by (with_reducible repeat (first | apply Kd.N_alloc | apply Kd.N_drewN | apply Kd.N_drew)); exact bI.out) (Kd.R_base cz) hb)
   have ch := bu (Kd.R_lower (Kd.R_newM (M := fun k_ => (w.heap.size ≤ k_)) cz (bs (by repeat (first | (with_reducible first | exact HB.out | apply bm | apply bj | apply bn | refine bi ?_ bK.out | refine bi ?_ bP.out | refine bi ?_ bZ.out) | exact HB.out))) (fun k_ h_ => h_)) (bs (by repeat (first | (with_reducible first | exact HB.out | apply bm | apply bj | apply bn | refine bi ?_ bK.out | refine bi ?_ bP.out | refine bi ?_ bZ.out) | exact HB.out))))
   have ci := bu (bl (g := bA) (o := .cells #[.slice bX bR.length bY, .slice bV bO.length bW, .int .i64 bH] 27 (0, 0)) (by (with_reducible repeat (first | refine a4 ?_ _ | refine bh ?_ | refine a5 ?_ _)); exact bz.out) hb)
   have cj := bu (bl (g := bC) (o := .cells #[.string bN, .string bT, .bool bU, .slice cd bQ.length ce] 53 (0, 0)) (by (with_reducible repeat (first | refine a4 ?_ _ | refine bh ?_ | refine a5 ?_ _)); exact bB.out) hb)
   have cn := bu (bl (g := bD) (o := .cells #[.slice none 0 0, .slice none 0 0, .int .i64 0] 27 (0, 0)) (by (with_reducible repeat (first | refine a4 ?_ _ | refine bh ?_ | refine a5 ?_ _)); exact bF.out) hb)
   have cu := bu (below_step (by repeat (first | (with_reducible first | exact HB.out | apply bm | apply bj | apply bn | refine bi ?_ bK.out | refine bi ?_ bP.out | refine bi ?_ bZ.out) | exact HB.out)) hb)
   clear bE
   clear bI
   clear bz
   clear bB
   clear bF
   clear HB
   have bE := cf
   have bI := cg
   have ca := ch
   have bz := ci
   have bB := cj
   have bF := cn
   have HB := cu
   clear cf cg ch ci cj cn cu
   (try clear hb)
   (try clear hb2)
   (try clear hk)
   (try clear hi)
   (try clear cz)
   obtain ⟨Ao39, co39, eo39⟩ := Kd.N_slice bI.out
   (first | subst eo39 | (injection eo39 with f1_ f2_ f3_; have f4_ := f1_.symm; have f5_ := f3_.symm; clear f1_ f2_ f3_; subst f4_; subst f5_))
   obtain ⟨Ao41, co41, eo41⟩ := Kd.R_slice ca.out
   (first | subst eo41 | (injection eo41 with f1_ f2_ f3_; have f4_ := f1_.symm; have f5_ := f3_.symm; clear f1_ f2_ f3_; subst f4_; subst f5_))
   refine hK.out _ _ ⟨(bo bz.out 0).trans rfl, (bo bz.out 1).trans rfl, (bo bz.out 2).trans rfl⟩ (fun hHeld => ?_)
   clear hK K
   refine norm_ (a' := ?_) ?_ ?_
   rotate_left
   ·
    show Act.put _ (some 12) _ = _
    simp only [Act.put, List.setIfInBounds_toArray, List.set_cons_zero, List.set_cons_succ, i64_w, i32_w]
    rfl
   refine last_ (i := 7) (N := none) #[true, true, true, true, true, true, true, true, false, false] rfl rfl (one_of HT_.out (by kernel_rfl)) (by decide) (fun K hK => ?_)
   have hs40 : w38.cell? ⟨bA, 0, none⟩ = some (.slice bX bR.length bY) := (bo bz.out 0).trans rfl
   have hfs40 := bk bz.out 0
   have hns40_1 := bM.out
   have hns40_2 := bL.out
   have hms40_1 := cb.out
   have hms40_2 := cc.out
   refine skip_ (w1 := ?_) (by rfl) rfl ?_ ?_
   rotate_left
   ·
    go_simp
    rfl
   refine hK.out _ _ ?_
   clear hK K
   refine pure_ (i := 8) (N := some 14) (v := ?_) (a' := ?_) #[true, true, true, true, true, true, true, true, true, false] rfl rfl (any_of HT_.out (by kernel_rfl)) (fun _ _ _ h => h) (Or.inl ⟨by rfl, ?_⟩) ?_ ?_
   rotate_left
   ·
    intro w'
    go_simp
    with_reducible rfl
   rotate_left
   ·
    simp only [Act.put, List.setIfInBounds_toArray, List.set_cons_zero, List.set_cons_succ, i64_w, i32_w]
    rfl
   refine last_ (i := 9) (N := none) #[true, true, true, true, true, true, true, true, true, true] rfl rfl (one_of HT_.out (by kernel_rfl)) (by decide) (fun K hK => ?_)
   have hs42 : w38.cell? ⟨bA, 1, none⟩ = some (.slice bV bO.length bW) := (bo bz.out 1).trans rfl
   have hfs42 := bk bz.out 1
   have hns42_1 := bM.out
   have hns42_2 := bL.out
   have hms42_1 := cb.out
   have hms42_2 := cc.out
   refine skip_ (w1 := ?_) (by rfl) rfl ?_ ?_
   rotate_left
   ·
    go_simp
    rfl
   refine hK.out _ _ ?_
   clear hK K
   refine done_ (done_of HT_.out (by kernel_rfl)) ?_
   have hnb43 := cb.out
   have hnc43 := bM.out
   have hnb44 := cc.out
   have hnc44 := bL.out
   have hcz45_0 : w38.cell? ⟨bA, 0, none⟩ = some (.slice bX bR.length bY) := (bo bz.out 0).trans rfl
   have hcz45_1 : w38.cell? ⟨bA, 1, none⟩ = some (.slice bV bO.length bW) := (bo bz.out 1).trans rfl
   have hcz45_2 : w38.cell? ⟨bA, 2, none⟩ = some (.int .i64 bH) := (bo bz.out 2).trans rfl
   have hfz45_0 := bk bz.out 0
   have hfz45_1 := bk bz.out 1
   have hfz45_2 := bk bz.out 2
   have hnb46 := cv.out
   have hnc46 := cw.out
   have hcz47_0 : w38.cell? ⟨bC, 0, none⟩ = some (.string bN) := (bo bB.out 0).trans rfl
   have hcz47_1 : w38.cell? ⟨bC, 1, none⟩ = some (.string bT) := (bo bB.out 1).trans rfl
   have hcz47_2 : w38.cell? ⟨bC, 2, none⟩ = some (.bool bU) := (bo bB.out 2).trans rfl
   have hcz47_3 : w38.cell? ⟨bC, 3, none⟩ = some (.slice cd bQ.length ce) := (bo bB.out 3).trans rfl
   have hfz47_0 := bk bB.out 0
   have hfz47_1 := bk bB.out 1
   have hfz47_2 := bk bB.out 2
   have hfz47_3 := bk bB.out 3
   try go_wp2_with (first | ((with_reducible refine bv (f := 33) rfl ?_); refine goesL_ (some 18) rfl rfl Tryd.func33 (by kernel_rfl) rfl #[.agg #[.slice Ao39 bG.length co39, .slice Ao41 bJ.length co41, .int .i64 bH], .string bN] rfl (by (try simp only [List.map_toArray, List.map_cons, List.map_nil]); first | done | rfl | (simp only [List.length_drop, List.length_take]; rfl)) ?_; (with_reducible refine (vars_Store_find.calls _ _ bG _ _ bJ bH bN bS _ ?cl ?cm ?side3 ?side4 A5.out).mono ?_); (case cl => refine (Kd.N_reads' (e := 53) (base := w.heap.size) (ok := fun k_ => (((ck k_ ∨ w.heap.size ≤ k_) ∧ (k_ ≠ bA ∧ (k_ ≠ bC ∧ k_ ≠ bD))) ∧ some k_ ≠ (.slice Ao41 bJ.length co41 : Value).ownBlock)) (n := bG.length) (c := co39) ?_).2.2; exact (by (with_reducible repeat (first | apply Kd.N_alloc | apply Kd.N_drewN | apply Kd.N_drew)); exact (Kd.N_mono (Kd.N_far (p := ⟨bA, 1, none⟩) (Kd.N_far (p := ⟨bA, 0, none⟩) (Kd.N_mono bI.out (fun k_ hk => (⟨hk, hk.1.2.1⟩ : _ ∧ k_ ≠ bA))) (fun _ hk => hk.2) (.slice Ao39 bG.length co39)) (fun _ hk => hk.2) (.slice Ao41 bJ.length co41)) (fun _ h_ => h_.1)))); (case cm => exact (Kd.N_reads' bI.out).2.1); (case side3 => refine (Kd.R_reads' (e := 9) (base := w.heap.size) (ok := fun k_ => ((w.heap.size ≤ k_) ∧ True)) (n := bJ.length) (c := co41) ?_).2.2; exact (by (with_reducible repeat (first | apply Kd.R_alloc | apply Kd.R_drewN | apply Kd.R_drew)); exact (Kd.R_mono (Kd.R_far (p := ⟨bA, 1, none⟩) (Kd.R_far (p := ⟨bA, 0, none⟩) (Kd.R_types ca.out bz.out (by decide)) (fun _ hk => hk.2) (.slice Ao39 bG.length co39)) (fun _ hk => hk.2) (.slice Ao41 bJ.length co41)) (fun _ h_ => h_.1)))); (case side4 => exact (Kd.R_reads' ca.out).2.1); rintro e w48 ⟨rfl, hb⟩; refine ⟨_, rfl, ?_⟩; have cf := bu (Kd.V_below (by (with_reducible repeat (first | apply Kd.V_alloc | apply Kd.V_drewN | apply Kd.V_drew)); exact (Kd.V_mono (Kd.V_far (p := ⟨bA, 1, none⟩) (Kd.V_far (p := ⟨bA, 0, none⟩) (Kd.V_mono bE.out (fun k_ hk => (⟨hk, hk.1.1.1.1.2⟩ : _ ∧ k_ ≠ bA))) (fun _ hk => hk.2) (.slice Ao39 bG.length co39)) (fun _ hk => hk.2) (.slice Ao41 bJ.length co41)) (fun _ h_ => h_.1))) hb); have cg := bu (Kd.N_below (by (with_reducible repeat (first | apply Kd.N_alloc | apply Kd.N_drewN | apply Kd.N_drew)); exact (Kd.N_mono (Kd.N_far (p := ⟨bA, 1, none⟩) (Kd.N_far (p := ⟨bA, 0, none⟩) (Kd.N_mono bI.out (fun k_ hk => (⟨hk, hk.1.2.1⟩ : _ ∧ k_ ≠ bA))) (fun _ hk => hk.2) (.slice Ao39 bG.length co39)) (fun _ hk => hk.2) (.slice Ao41 bJ.length co41)) (fun _ h_ => h_.1))) hb); have ch := bu (Kd.R_below (by (with_reducible repeat (first | apply Kd.R_alloc | apply Kd.R_drewN | apply Kd.R_drew)); exact (Kd.R_mono (Kd.R_far (p := ⟨bA, 1, none⟩) (Kd.R_far (p := ⟨bA, 0, none⟩) (Kd.R_types ca.out bz.out (by decide)) (fun _ hk => hk.2) (.slice Ao39 bG.length co39)) (fun _ hk => hk.2) (.slice Ao41 bJ.length co41)) (fun _ h_ => h_.1))) hb); have ci := bu (bl (g := bA) (o := .cells #[.slice Ao39 bG.length co39, .slice Ao41 bJ.length co41, .int .i64 bH] 27 (0, 0)) (by (with_reducible repeat (first | refine a4 ?_ _ | refine bh ?_ | refine a5 ?_ _)); refine blk_put (cs := #[.slice Ao39 bG.length co39, .slice bV bO.length bW, .int .i64 bH]) ?_ 1 _ rfl; (with_reducible repeat (first | refine a4 ?_ _ | refine bh ?_ | refine a5 ?_ _)); refine blk_put (cs := #[.slice bX bR.length bY, .slice bV bO.length bW, .int .i64 bH]) ?_ 0 _ rfl; (with_reducible repeat (first | refine a4 ?_ _ | refine bh ?_ | refine a5 ?_ _)); exact bz.out) hb); have cj := bu (bl (g := bC) (o := .cells #[.string bN, .string bT, .bool bU, .slice cd bQ.length ce] 53 (0, 0)) (by (with_reducible repeat (first | refine a4 ?_ _ | refine bh ?_ | refine a5 ?_ _)); refine blk_far ?_ bM.out _; (with_reducible repeat (first | refine a4 ?_ _ | refine bh ?_ | refine a5 ?_ _)); refine blk_far ?_ bM.out _; (with_reducible repeat (first | refine a4 ?_ _ | refine bh ?_ | refine a5 ?_ _)); exact bB.out) hb); have cn := bu (bl (g := bD) (o := .cells #[.slice none 0 0, .slice none 0 0, .int .i64 0] 27 (0, 0)) (by (with_reducible repeat (first | refine a4 ?_ _ | refine bh ?_ | refine a5 ?_ _)); refine blk_far ?_ bL.out _; (with_reducible repeat (first | refine a4 ?_ _ | refine bh ?_ | refine a5 ?_ _)); refine blk_far ?_ bL.out _; (with_reducible repeat (first | refine a4 ?_ _ | refine bh ?_ | refine a5 ?_ _)); exact bF.out) hb); have cu := bu (below_step (by repeat (first | (with_reducible first | exact HB.out | apply bm | apply bj | apply bn | refine bi ?_ bK.out | refine bi ?_ bP.out | refine bi ?_ bZ.out) | exact HB.out)) hb); clear bE; clear bI; clear ca; clear bz; clear bB; clear bF; clear HB; have bE := cf; have bI := cg; have ca := ch; have bz := ci; have bB := cj; have bF := cn; have HB := cu; clear cf cg ch ci cj cn cu; (try clear hb); (try clear hb2); (try clear hk); (try clear hi); have hcz49_0 : w48.cell? ⟨bA, 0, none⟩ = some (.slice Ao39 bG.length co39) := (bo bz.out 0).trans rfl; have hcz49_1 : w48.cell? ⟨bA, 1, none⟩ = some (.slice Ao41 bJ.length co41) := (bo bz.out 1).trans rfl; have hcz49_2 : w48.cell? ⟨bA, 2, none⟩ = some (.int .i64 bH) := (bo bz.out 2).trans rfl; have hfz49_0 := bk bz.out 0; have hfz49_1 := bk bz.out 1; have hfz49_2 := bk bz.out 2; have hcz50_0 : w48.cell? ⟨bD, 0, none⟩ = some (.slice none 0 0) := (bo bF.out 0).trans rfl; have hcz50_1 : w48.cell? ⟨bD, 1, none⟩ = some (.slice none 0 0) := (bo bF.out 1).trans rfl; have hcz50_2 : w48.cell? ⟨bD, 2, none⟩ = some (.int .i64 0) := (bo bF.out 2).trans rfl; have hfz50_0 := bk bF.out 0; have hfz50_1 := bk bF.out 1; have hfz50_2 := bk bF.out 2))
   refine bodyPost_ret (results_ct rfl _ _ bD 27 #[.slice none 0 0, .slice none 0 0, .int .i64 0] (0, 0) _ rfl (by (with_reducible repeat (first | refine a4 ?_ _ | refine bh ?_ | refine a5 ?_ _)); refine blk_put (cs := #[.slice none 0 0, .slice none 0 0, .int .i64 0]) ?_ 2 _ rfl; (with_reducible repeat (first | refine a4 ?_ _ | refine bh ?_ | refine a5 ?_ _)); refine blk_put (cs := #[.slice none 0 0, .slice none 0 0, .int .i64 0]) ?_ 1 _ rfl; (with_reducible repeat (first | refine a4 ?_ _ | refine bh ?_ | refine a5 ?_ _)); refine blk_put (cs := #[.slice none 0 0, .slice none 0 0, .int .i64 0]) ?_ 0 _ rfl; (with_reducible repeat (first | refine a4 ?_ _ | refine bh ?_ | refine a5 ?_ _)); exact bF.out) Tryd.underlying27 rfl (by kernel_rfl)) rfl ?_
   exact ⟨_, _, by first | rfl | (simp [errW_none, errW_some] <;> rfl) | (simp [*, errW_none, errW_some] <;> rfl), by first | exact Kd.S_nil _ _ _ _ _ | exact Kd.N_nil _ _ _ _ _ | exact Kd.V_nil _ _ _ _ _ | exact Kd.Q_nil _ _ _ _ _ | exact Kd.R_nil _ _ _ _ _, by first | exact Kd.R_nil _ _ _ _ _ | exact Kd.N_nil _ _ _ _ _ | exact Kd.V_nil _ _ _ _ _ | exact Kd.Q_nil _ _ _ _ _ | exact Kd.S_nil _ _ _ _ _, by repeat (first | (with_reducible first | exact HB.out | apply bm | apply bj | apply bn | refine bi ?_ bK.out | refine bi ?_ bP.out | refine bi ?_ bZ.out) | exact HB.out)⟩
  ·
   rw [if_neg c32] at H
   have c32b0 : decide (1024 ≤ (bG.length : Int)) = false := decide_eq_false c32
   have c32b1 : decide (1024 ≤ bG.length) = false := decide_eq_false (by omega)
   clear c32
   by_cases c51 : bG.length < 2199023255552
   ·
    rw [if_pos c51] at H
    have LMc51 := bu c51
    clear c51
    obtain ⟨y119, hy119⟩ : ∃ y_ : List (S53), y_ = (bG ++ [(⟨bN, bT, bU, bQ⟩ : S53)]) := ⟨_, rfl⟩
    replace H : (some (y119, bJ, bH, 0)) = some (r1, r2, r3, r4) := by first | (rw [hy119]; with_reducible exact H) | (have H2_ := (Option.bind_some _ _).symm.trans H; rw [hy119]; with_reducible exact H2_) | (have H2_ := (Option.bind_some _ _).symm.trans H; with_reducible exact H2_) | with_reducible exact H | (rw [hy119]; exact H) | exact H
    have Ny119 := bu hy119
    clear hy119
    simp only [Option.some.injEq, Prod.mk.injEq] at H
    obtain ⟨rfl, rfl, rfl, rfl⟩ := H
    go_enter Tryd.func46, Tryd.ntmps46
    try go_wp2_with (first | ((with_reducible refine gate_dst (N := 2) rfl ?_); refine box_event ?hg (N := 2) ?hd (cs := #[.slice bX bR.length bY, .slice bV bO.length bW, .int .i64 bH]) (t := 27) ?hr ?_; (case hd => rfl); (case hg => rfl); (case hr => first | (go_simp; done) | (go_simp; rfl)); intro bA hg w52 hbox hb; have cf := bu (Kd.V_below (Kd.V_elderB (by (with_reducible repeat (first | apply Kd.V_alloc | apply Kd.V_drewN | apply Kd.V_drew)); exact bE.out) bA (Nat.le_of_eq hg.symm)) hb); have cg := bu (below_step (by repeat (first | (with_reducible first | exact HB.out | apply bm | apply bj | apply bn) | exact HB.out)) hb); have ch := bu (hbox); have ci := bu ((by rw [hg]; exact (bs (by repeat (first | (with_reducible first | exact HB.out | apply bm | apply bj | apply bn) | exact HB.out))) : w.heap.size ≤ bA)); have cj := bu ((by rw [hg]; exact (bs (by repeat (first | (with_reducible first | exact HB.out | apply bm | apply bj | apply bn) | exact HB.out))) : w.heap.size ≤ bA)); clear bE; clear HB; have bE := cf; have HB := cg; have bz := ch; have GW108 := ci; have bK := cj; clear cf cg ch ci cj; clear hb hbox hg) | ((with_reducible refine gate_dst (N := 3) rfl ?_); refine box_event ?hg (N := 3) ?hd (cs := #[.string bN, .string bT, .bool bU, .slice cd bQ.length ce]) (t := 53) ?hr ?_; (case hd => rfl); (case hg => rfl); (case hr => first | (go_simp; done) | (go_simp; rfl)); intro bC hg w53 hbox hb; have cf := bu (Kd.V_below (Kd.V_elderB (by (with_reducible repeat (first | apply Kd.V_alloc | apply Kd.V_drewN | apply Kd.V_drew)); exact bE.out) bC (Nat.le_of_eq hg.symm)) hb); have cg := bu (bl (g := bA) (o := .cells #[.slice bX bR.length bY, .slice bV bO.length bW, .int .i64 bH] 27 (0, 0)) (by (with_reducible repeat (first | refine a4 ?_ _ | refine bh ?_ | refine a5 ?_ _)); exact bz.out) hb); have ch := bu (below_step (by repeat (first | (with_reducible first | exact HB.out | apply bm | apply bj | apply bn | refine bi ?_ bK.out) | exact HB.out)) hb); have ci := bu (hbox); have cj := bu ((by rw [hg]; exact (bs (by repeat (first | (with_reducible first | exact HB.out | apply bm | apply bj | apply bn | refine bi ?_ bK.out) | exact HB.out))) : w.heap.size ≤ bC)); have cn := bu ((by rw [hg]; exact (bs (by repeat (first | (with_reducible first | exact HB.out | apply bm | apply bj | apply bn | refine bi ?_ bK.out) | exact HB.out))) : w.heap.size ≤ bC)); have cu := bu ((by rw [hg]; exact Nat.ne_of_lt (blk_lt (g := bA) (o := .cells #[.slice bX bR.length bY, .slice bV bO.length bW, .int .i64 bH] 27 (0, 0)) (by (with_reducible repeat (first | refine a4 ?_ _ | refine bh ?_ | refine a5 ?_ _)); exact bz.out)) : bA ≠ bC)); have n7_ := bu ((by rw [hg]; exact Nat.ne_of_gt (blk_lt (g := bA) (o := .cells #[.slice bX bR.length bY, .slice bV bO.length bW, .int .i64 bH] 27 (0, 0)) (by (with_reducible repeat (first | refine a4 ?_ _ | refine bh ?_ | refine a5 ?_ _)); exact bz.out)) : bC ≠ bA)); clear bE; clear bz; clear HB; have bE := cf; have bz := cg; have HB := ch; have bB := ci; have GW109 := cj; have bP := cn; have cb := cu; have bM := n7_; clear cf cg ch ci cj cn cu n7_; clear hb hbox hg) | ((with_reducible refine gate_dst (N := 4) rfl ?_); refine box_event ?hg (N := 4) ?hd (cs := #[.slice none 0 0, .slice none 0 0, .int .i64 0]) (t := 27) ?hr ?_; (case hd => rfl); (case hg => rfl); (case hr => first | (go_simp; done) | (go_simp; rfl)); intro bD hg w54 hbox hb; have cf := bu (Kd.V_below (Kd.V_elderB (by (with_reducible repeat (first | apply Kd.V_alloc | apply Kd.V_drewN | apply Kd.V_drew)); exact bE.out) bD (Nat.le_of_eq hg.symm)) hb); have cg := bu (bl (g := bA) (o := .cells #[.slice bX bR.length bY, .slice bV bO.length bW, .int .i64 bH] 27 (0, 0)) (by (with_reducible repeat (first | refine a4 ?_ _ | refine bh ?_ | refine a5 ?_ _)); exact bz.out) hb); have ch := bu (bl (g := bC) (o := .cells #[.string bN, .string bT, .bool bU, .slice cd bQ.length ce] 53 (0, 0)) (by (with_reducible repeat (first | refine a4 ?_ _ | refine bh ?_ | refine a5 ?_ _)); exact bB.out) hb); have ci := bu (below_step (by repeat (first | (with_reducible first | exact HB.out | apply bm | apply bj | apply bn | refine bi ?_ bK.out | refine bi ?_ bP.out) | exact HB.out)) hb); have cj := bu (hbox); have cn := bu ((by rw [hg]; exact (bs (by repeat (first | (with_reducible first | exact HB.out | apply bm | apply bj | apply bn | refine bi ?_ bK.out | refine bi ?_ bP.out) | exact HB.out))) : w.heap.size ≤ bD)); have cu := bu ((by rw [hg]; exact (bs (by repeat (first | (with_reducible first | exact HB.out | apply bm | apply bj | apply bn | refine bi ?_ bK.out | refine bi ?_ bP.out) | exact HB.out))) : w.heap.size ≤ bD)); have n7_ := bu ((by rw [hg]; exact Nat.ne_of_lt (blk_lt (g := bA) (o := .cells #[.slice bX bR.length bY, .slice bV bO.length bW, .int .i64 bH] 27 (0, 0)) (by (with_reducible repeat (first | refine a4 ?_ _ | refine bh ?_ | refine a5 ?_ _)); exact bz.out)) : bA ≠ bD)); have n8_ := bu ((by rw [hg]; exact Nat.ne_of_gt (blk_lt (g := bA) (o := .cells #[.slice bX bR.length bY, .slice bV bO.length bW, .int .i64 bH] 27 (0, 0)) (by (with_reducible repeat (first | refine a4 ?_ _ | refine bh ?_ | refine a5 ?_ _)); exact bz.out)) : bD ≠ bA)); have n9_ := bu ((by rw [hg]; exact Nat.ne_of_lt (blk_lt (g := bC) (o := .cells #[.string bN, .string bT, .bool bU, .slice cd bQ.length ce] 53 (0, 0)) (by (with_reducible repeat (first | refine a4 ?_ _ | refine bh ?_ | refine a5 ?_ _)); exact bB.out)) : bC ≠ bD)); have n10_ := bu ((by rw [hg]; exact Nat.ne_of_gt (blk_lt (g := bC) (o := .cells #[.string bN, .string bT, .bool bU, .slice cd bQ.length ce] 53 (0, 0)) (by (with_reducible repeat (first | refine a4 ?_ _ | refine bh ?_ | refine a5 ?_ _)); exact bB.out)) : bD ≠ bC)); clear bE; clear bz; clear bB; clear HB; have bE := cf; have bz := cg; have bB := ch; have HB := ci; have bF := cj; have GW110 := cn; have bZ := cu; have cc := n7_; have bL := n8_; have cv := n9_; have cw := n10_; clear cf cg ch ci cj cn cu n7_ n8_ n9_ n10_; clear hb hbox hg))
    have cf := bu (Kd.V_drew bE.out)
    have cg := bu (bh bz.out)
    have ch := bu (bh bB.out)
    have ci := bu (bh bF.out)
    have cj := bu (bn HB.out)
    clear bE
    clear bz
    clear bB
    clear bF
    clear HB
    have bE := cf
    have bz := cg
    have bB := ch
    have bF := ci
    have HB := cj
    clear cf cg ch ci cj
    refine start_ (n := 10) (S := fun w' => w'.cell? ⟨bA, 0, none⟩ = some (.slice bX bR.length bY) ∧ w'.cell? ⟨bA, 1, none⟩ = some (.slice bV bO.length bW) ∧ w'.cell? ⟨bA, 2, none⟩ = some (.int .i64 bH)) (ds := [7, 9]) #[false, false, false, false, false, false, false, false, false, false] (by kernel_rfl) rfl rfl ⟨(bo bz.out 0).trans rfl, (bo bz.out 1).trans rfl, (bo bz.out 2).trans rfl⟩ (fun hHeld => ?_); refine with_tabW vars_Store_with.tab1 vars_Store_with.bits1 (fun HT_ HW_ => ?_)
    generalize w54.drew = w55 at bE bz bB bF HB hHeld ⊢
    refine pure_ (i := 0) (N := some 7) (v := ?_) (a' := ?_) #[true, false, false, false, false, false, false, false, false, false] rfl rfl (any_of HT_.out (by kernel_rfl)) (fun _ _ _ h => h) (Or.inl ⟨by rfl, ?_⟩) ?_ ?_
    rotate_left
    ·
     intro w'
     go_simp
     with_reducible rfl
    rotate_left
    ·
     simp only [Act.put, List.setIfInBounds_toArray, List.set_cons_zero, List.set_cons_succ, i64_w, i32_w]
     rfl
    refine pure_ (i := 3) (N := some 10) (v := ?_) (a' := ?_) #[true, false, false, true, false, false, false, false, false, false] rfl rfl (any_of HT_.out (by kernel_rfl)) (fun _ _ _ h => h) (Or.inl ⟨by rfl, ?_⟩) ?_ ?_
    rotate_left
    ·
     intro w'
     go_simp
     with_reducible rfl
    rotate_left
    ·
     simp only [Act.put, List.setIfInBounds_toArray, List.set_cons_zero, List.set_cons_succ, i64_w, i32_w]
     rfl
    refine take_ (i := 1) (N := some 8) (v := ?_) (a' := ?_) #[true, true, false, true, false, false, false, false, false, false] rfl rfl (take_ofW HT_.out HW_.out (by kernel_rfl)) (fun _ _ _ h => h) (Or.inl ⟨by rfl, ?_⟩) hHeld ?_ ?_
    rotate_left
    ·
     rintro w' ⟨s0, s1, s2⟩
     go_simp
     with_reducible rfl
    rotate_left
    ·
     simp only [Act.put, List.setIfInBounds_toArray, List.set_cons_zero, List.set_cons_succ, i64_w, i32_w]
     rfl
    refine take_ (i := 4) (N := some 11) (v := ?_) (a' := ?_) #[true, true, false, true, true, false, false, false, false, false] rfl rfl (take_ofW HT_.out HW_.out (by kernel_rfl)) (fun _ _ _ h => h) (Or.inl ⟨by rfl, ?_⟩) hHeld ?_ ?_
    rotate_left
    ·
     rintro w' ⟨s0, s1, s2⟩
     go_simp
     with_reducible rfl
    rotate_left
    ·
     simp only [Act.put, List.setIfInBounds_toArray, List.set_cons_zero, List.set_cons_succ, i64_w, i32_w]
     rfl
    refine one_ (i := 2) (N := some 9) #[true, true, true, true, true, false, false, false, false, false] rfl rfl (one_of HT_.out (by kernel_rfl)) (by decide) (fun K hK => ?_)
    refine goes_ Tryd.func21 (by kernel_rfl) rfl #[.slice bX bR.length bY] (by rfl) rfl rfl (by (try simp only [List.map_toArray, List.map_cons, List.map_nil]); first | done | rfl | (simp only [List.length_drop, List.length_take]; rfl)) ?_
    with_reducible refine (vars_own.calls _ _ bR bG _ ?cl ?cm A3.out).mono ?_
    (case cl => repeat (first | exact (br HR0_0.out HB.out) | (with_reducible refine bp ?_ _) | (with_reducible refine bq ?_ _) | (with_reducible refine Kd.C_drew ?_)))
    (case cm => exact HC0_0.out)
    rintro e w56 ⟨v112, rfl, cz, hb⟩
    refine ⟨_, rfl, ?_⟩
    have cf := bu (Kd.V_elder' (by (with_reducible repeat (first | apply Kd.V_alloc | apply Kd.V_drewN | apply Kd.V_drew)); exact bE.out) (Kd.N_base cz) hb)
    have cg := bu (Kd.N_lower (Kd.N_mono (ok' := fun k_ => (ck k_ ∨ w.heap.size ≤ k_) ∧ k_ ≠ bA ∧ k_ ≠ bC ∧ k_ ≠ bD) cz (fun k_ hk_ => ⟨(.inr (Nat.le_trans (bs (by repeat (first | (with_reducible first | exact HB.out | apply bm | apply bj | apply bn | refine bi ?_ bK.out | refine bi ?_ bP.out | refine bi ?_ bZ.out) | exact HB.out))) hk_)), (Kd.freshB (g := bA) (o := .cells #[.slice bX bR.length bY, .slice bV bO.length bW, .int .i64 bH] 27 (0, 0)) (by (with_reducible repeat (first | refine a4 ?_ _ | refine bh ?_ | refine a5 ?_ _)); exact bz.out) k_ hk_), (Kd.freshB (g := bC) (o := .cells #[.string bN, .string bT, .bool bU, .slice cd bQ.length ce] 53 (0, 0)) (by (with_reducible repeat (first | refine a4 ?_ _ | refine bh ?_ | refine a5 ?_ _)); exact bB.out) k_ hk_), (Kd.freshB (g := bD) (o := .cells #[.slice none 0 0, .slice none 0 0, .int .i64 0] 27 (0, 0)) (by (with_reducible repeat (first | refine a4 ?_ _ | refine bh ?_ | refine a5 ?_ _)); exact bF.out) k_ hk_)⟩)) (bs (by repeat (first | (with_reducible first | exact HB.out | apply bm | apply bj | apply bn | refine bi ?_ bK.out | refine bi ?_ bP.out | refine bi ?_ bZ.out) | exact HB.out))))
    have ch := bu (bl (g := bA) (o := .cells #[.slice bX bR.length bY, .slice bV bO.length bW, .int .i64 bH] 27 (0, 0)) (by (with_reducible repeat (first | refine a4 ?_ _ | refine bh ?_ | refine a5 ?_ _)); exact bz.out) hb)
    have ci := bu (bl (g := bC) (o := .cells #[.string bN, .string bT, .bool bU, .slice cd bQ.length ce] 53 (0, 0)) (by (with_reducible repeat (first | refine a4 ?_ _ | refine bh ?_ | refine a5 ?_ _)); exact bB.out) hb)
    have cj := bu (bl (g := bD) (o := .cells #[.slice none 0 0, .slice none 0 0, .int .i64 0] 27 (0, 0)) (by (with_reducible repeat (first | refine a4 ?_ _ | refine bh ?_ | refine a5 ?_ _)); exact bF.out) hb)
    have cn := bu (below_step (by repeat (first | (with_reducible first | exact HB.out | apply bm | apply bj | apply bn | refine bi ?_ bK.out | refine bi ?_ bP.out | refine bi ?_ bZ.out) | exact HB.out)) hb)
    clear bE
    clear bz
    clear bB
    clear bF
    clear HB
    have bE := cf
    have bI := cg
    have bz := ch
    have bB := ci
    have bF := cj
    have HB := cn
    clear cf cg ch ci cj cn
    (try clear hb)
    (try clear hb2)
    (try clear hk)
    (try clear hi)
    (try clear cz)
    refine hK.out _ _ ⟨(bo bz.out 0).trans rfl, (bo bz.out 1).trans rfl, (bo bz.out 2).trans rfl⟩ (fun hHeld => ?_)
    clear hK K
    refine norm_ (a' := ?_) ?_ ?_
    rotate_left
    ·
     show Act.put _ (some 9) _ = _
     simp only [Act.put, List.setIfInBounds_toArray, List.set_cons_zero, List.set_cons_succ, i64_w, i32_w]
     rfl
    refine pure_ (i := 6) (N := some 13) (v := ?_) (a' := ?_) #[true, true, true, true, true, false, true, false, false, false] rfl rfl (any_of HT_.out (by kernel_rfl)) (fun _ _ _ h => h) (Or.inl ⟨by rfl, ?_⟩) ?_ ?_
    rotate_left
    ·
     intro w'
     go_simp
     with_reducible rfl
    rotate_left
    ·
     simp only [Act.put, List.setIfInBounds_toArray, List.set_cons_zero, List.set_cons_succ, i64_w, i32_w]
     rfl
    refine one_ (i := 5) (N := some 12) #[true, true, true, true, true, true, true, false, false, false] rfl rfl (one_of HT_.out (by kernel_rfl)) (by decide) (fun K hK => ?_)
    refine goes_ Tryd.func22 (by kernel_rfl) rfl #[.slice bV bO.length bW] (by rfl) rfl rfl (by (try simp only [List.map_toArray, List.map_cons, List.map_nil]); first | done | rfl | (simp only [List.length_drop, List.length_take]; rfl)) ?_
    with_reducible refine (slices_Clone_string_string.calls _ _ bO bJ _ ?cl ?cm A4.out).mono ?_
    (case cl => repeat (first | exact (br HR0_1.out HB.out) | (with_reducible refine bp ?_ _) | (with_reducible refine bq ?_ _) | (with_reducible refine Kd.C_drew ?_)))
    (case cm => exact HC0_1.out)
    rintro e w57 ⟨v115, rfl, cz, hb⟩
    refine ⟨_, rfl, ?_⟩
    have cf := bu (Kd.V_elder' (by (with_reducible repeat (first | apply Kd.V_alloc | apply Kd.V_drewN | apply Kd.V_drew)); exact bE.out) (Kd.R_base cz) hb)
    have cg := bu (Kd.N_elder' (by (with_reducible repeat (first | apply Kd.N_alloc | apply Kd.N_drewN | apply Kd.N_drew)); exact bI.out) (Kd.R_base cz) hb)
    have ch := bu (Kd.R_lower (Kd.R_newM (M := fun k_ => (w.heap.size ≤ k_)) cz (bs (by repeat (first | (with_reducible first | exact HB.out | apply bm | apply bj | apply bn | refine bi ?_ bK.out | refine bi ?_ bP.out | refine bi ?_ bZ.out) | exact HB.out))) (fun k_ h_ => h_)) (bs (by repeat (first | (with_reducible first | exact HB.out | apply bm | apply bj | apply bn | refine bi ?_ bK.out | refine bi ?_ bP.out | refine bi ?_ bZ.out) | exact HB.out))))
    have ci := bu (bl (g := bA) (o := .cells #[.slice bX bR.length bY, .slice bV bO.length bW, .int .i64 bH] 27 (0, 0)) (by (with_reducible repeat (first | refine a4 ?_ _ | refine bh ?_ | refine a5 ?_ _)); exact bz.out) hb)
    have cj := bu (bl (g := bC) (o := .cells #[.string bN, .string bT, .bool bU, .slice cd bQ.length ce] 53 (0, 0)) (by (with_reducible repeat (first | refine a4 ?_ _ | refine bh ?_ | refine a5 ?_ _)); exact bB.out) hb)
    have cn := bu (bl (g := bD) (o := .cells #[.slice none 0 0, .slice none 0 0, .int .i64 0] 27 (0, 0)) (by (with_reducible repeat (first | refine a4 ?_ _ | refine bh ?_ | refine a5 ?_ _)); exact bF.out) hb)
    have cu := bu (below_step (by repeat (first | (with_reducible first | exact HB.out | apply bm | apply bj | apply bn | refine bi ?_ bK.out | refine bi ?_ bP.out | refine bi ?_ bZ.out) | exact HB.out)) hb)
    clear bE
    clear bI
    clear bz
    clear bB
    clear bF
    clear HB
    have bE := cf
    have bI := cg
    have ca := ch
    have bz := ci
    have bB := cj
    have bF := cn
    have HB := cu
    clear cf cg ch ci cj cn cu
    (try clear hb)
    (try clear hb2)
    (try clear hk)
    (try clear hi)
    (try clear cz)
    obtain ⟨cy, cx, eo58⟩ := Kd.N_slice bI.out
    (first | subst eo58 | (injection eo58 with f1_ f2_ f3_; have f4_ := f1_.symm; have f5_ := f3_.symm; clear f1_ f2_ f3_; subst f4_; subst f5_))
    obtain ⟨ct, cq, eo60⟩ := Kd.R_slice ca.out
    (first | subst eo60 | (injection eo60 with f1_ f2_ f3_; have f4_ := f1_.symm; have f5_ := f3_.symm; clear f1_ f2_ f3_; subst f4_; subst f5_))
    refine hK.out _ _ ⟨(bo bz.out 0).trans rfl, (bo bz.out 1).trans rfl, (bo bz.out 2).trans rfl⟩ (fun hHeld => ?_)
    clear hK K
    refine norm_ (a' := ?_) ?_ ?_
    rotate_left
    ·
     show Act.put _ (some 12) _ = _
     simp only [Act.put, List.setIfInBounds_toArray, List.set_cons_zero, List.set_cons_succ, i64_w, i32_w]
     rfl
    refine last_ (i := 7) (N := none) #[true, true, true, true, true, true, true, true, false, false] rfl rfl (one_of HT_.out (by kernel_rfl)) (by decide) (fun K hK => ?_)
    have hs59 : w57.cell? ⟨bA, 0, none⟩ = some (.slice bX bR.length bY) := (bo bz.out 0).trans rfl
    have hfs59 := bk bz.out 0
    have hns59_1 := bM.out
    have hns59_2 := bL.out
    have hms59_1 := cb.out
    have hms59_2 := cc.out
    refine skip_ (w1 := ?_) (by rfl) rfl ?_ ?_
    rotate_left
    ·
     go_simp
     rfl
    refine hK.out _ _ ?_
    clear hK K
    refine pure_ (i := 8) (N := some 14) (v := ?_) (a' := ?_) #[true, true, true, true, true, true, true, true, true, false] rfl rfl (any_of HT_.out (by kernel_rfl)) (fun _ _ _ h => h) (Or.inl ⟨by rfl, ?_⟩) ?_ ?_
    rotate_left
    ·
     intro w'
     go_simp
     with_reducible rfl
    rotate_left
    ·
     simp only [Act.put, List.setIfInBounds_toArray, List.set_cons_zero, List.set_cons_succ, i64_w, i32_w]
     rfl
    refine last_ (i := 9) (N := none) #[true, true, true, true, true, true, true, true, true, true] rfl rfl (one_of HT_.out (by kernel_rfl)) (by decide) (fun K hK => ?_)
    have hs61 : w57.cell? ⟨bA, 1, none⟩ = some (.slice bV bO.length bW) := (bo bz.out 1).trans rfl
    have hfs61 := bk bz.out 1
    have hns61_1 := bM.out
    have hns61_2 := bL.out
    have hms61_1 := cb.out
    have hms61_2 := cc.out
    refine skip_ (w1 := ?_) (by rfl) rfl ?_ ?_
    rotate_left
    ·
     go_simp
     rfl
    refine hK.out _ _ ?_
    clear hK K
    refine done_ (done_of HT_.out (by kernel_rfl)) ?_
    have hnb62 := cb.out
    have hnc62 := bM.out
    have hnb63 := cc.out
    have hnc63 := bL.out
    have hcz64_0 : w57.cell? ⟨bA, 0, none⟩ = some (.slice bX bR.length bY) := (bo bz.out 0).trans rfl
    have hcz64_1 : w57.cell? ⟨bA, 1, none⟩ = some (.slice bV bO.length bW) := (bo bz.out 1).trans rfl
    have hcz64_2 : w57.cell? ⟨bA, 2, none⟩ = some (.int .i64 bH) := (bo bz.out 2).trans rfl
    have hfz64_0 := bk bz.out 0
    have hfz64_1 := bk bz.out 1
    have hfz64_2 := bk bz.out 2
    have hnb65 := cv.out
    have hnc65 := cw.out
    have hcz66_0 : w57.cell? ⟨bC, 0, none⟩ = some (.string bN) := (bo bB.out 0).trans rfl
    have hcz66_1 : w57.cell? ⟨bC, 1, none⟩ = some (.string bT) := (bo bB.out 1).trans rfl
    have hcz66_2 : w57.cell? ⟨bC, 2, none⟩ = some (.bool bU) := (bo bB.out 2).trans rfl
    have hcz66_3 : w57.cell? ⟨bC, 3, none⟩ = some (.slice cd bQ.length ce) := (bo bB.out 3).trans rfl
    have hfz66_0 := bk bB.out 0
    have hfz66_1 := bk bB.out 1
    have hfz66_2 := bk bB.out 2
    have hfz66_3 := bk bB.out 3
    try go_wp2_with (first | ((with_reducible refine bv (f := 33) rfl ?_); refine goesL_ (some 18) rfl rfl Tryd.func33 (by kernel_rfl) rfl #[.agg #[.slice cy bG.length cx, .slice ct bJ.length cq, .int .i64 bH], .string bN] rfl (by (try simp only [List.map_toArray, List.map_cons, List.map_nil]); first | done | rfl | (simp only [List.length_drop, List.length_take]; rfl)) ?_; (with_reducible refine (vars_Store_find.calls _ _ bG _ _ bJ bH bN bS _ ?cl ?cm ?side3 ?side4 A5.out).mono ?_); (case cl => refine (Kd.N_reads' (e := 53) (base := w.heap.size) (ok := fun k_ => (((ck k_ ∨ w.heap.size ≤ k_) ∧ (k_ ≠ bA ∧ (k_ ≠ bC ∧ k_ ≠ bD))) ∧ some k_ ≠ (.slice ct bJ.length cq : Value).ownBlock)) (n := bG.length) (c := cx) ?_).2.2; exact (by (with_reducible repeat (first | apply Kd.N_alloc | apply Kd.N_drewN | apply Kd.N_drew)); exact (Kd.N_mono (Kd.N_far (p := ⟨bA, 1, none⟩) (Kd.N_far (p := ⟨bA, 0, none⟩) (Kd.N_mono bI.out (fun k_ hk => (⟨hk, hk.1.2.1⟩ : _ ∧ k_ ≠ bA))) (fun _ hk => hk.2) (.slice cy bG.length cx)) (fun _ hk => hk.2) (.slice ct bJ.length cq)) (fun _ h_ => h_.1)))); (case cm => exact (Kd.N_reads' bI.out).2.1); (case side3 => refine (Kd.R_reads' (e := 9) (base := w.heap.size) (ok := fun k_ => ((w.heap.size ≤ k_) ∧ True)) (n := bJ.length) (c := cq) ?_).2.2; exact (by (with_reducible repeat (first | apply Kd.R_alloc | apply Kd.R_drewN | apply Kd.R_drew)); exact (Kd.R_mono (Kd.R_far (p := ⟨bA, 1, none⟩) (Kd.R_far (p := ⟨bA, 0, none⟩) (Kd.R_types ca.out bz.out (by decide)) (fun _ hk => hk.2) (.slice cy bG.length cx)) (fun _ hk => hk.2) (.slice ct bJ.length cq)) (fun _ h_ => h_.1)))); (case side4 => exact (Kd.R_reads' ca.out).2.1); rintro e w67 ⟨rfl, hb⟩; refine ⟨_, rfl, ?_⟩; have cf := bu (Kd.V_below (by (with_reducible repeat (first | apply Kd.V_alloc | apply Kd.V_drewN | apply Kd.V_drew)); exact (Kd.V_mono (Kd.V_far (p := ⟨bA, 1, none⟩) (Kd.V_far (p := ⟨bA, 0, none⟩) (Kd.V_mono bE.out (fun k_ hk => (⟨hk, hk.1.1.1.1.2⟩ : _ ∧ k_ ≠ bA))) (fun _ hk => hk.2) (.slice cy bG.length cx)) (fun _ hk => hk.2) (.slice ct bJ.length cq)) (fun _ h_ => h_.1))) hb); have cg := bu (Kd.N_below (by (with_reducible repeat (first | apply Kd.N_alloc | apply Kd.N_drewN | apply Kd.N_drew)); exact (Kd.N_mono (Kd.N_far (p := ⟨bA, 1, none⟩) (Kd.N_far (p := ⟨bA, 0, none⟩) (Kd.N_mono bI.out (fun k_ hk => (⟨hk, hk.1.2.1⟩ : _ ∧ k_ ≠ bA))) (fun _ hk => hk.2) (.slice cy bG.length cx)) (fun _ hk => hk.2) (.slice ct bJ.length cq)) (fun _ h_ => h_.1))) hb); have ch := bu (Kd.R_below (by (with_reducible repeat (first | apply Kd.R_alloc | apply Kd.R_drewN | apply Kd.R_drew)); exact (Kd.R_mono (Kd.R_far (p := ⟨bA, 1, none⟩) (Kd.R_far (p := ⟨bA, 0, none⟩) (Kd.R_types ca.out bz.out (by decide)) (fun _ hk => hk.2) (.slice cy bG.length cx)) (fun _ hk => hk.2) (.slice ct bJ.length cq)) (fun _ h_ => h_.1))) hb); have ci := bu (bl (g := bA) (o := .cells #[.slice cy bG.length cx, .slice ct bJ.length cq, .int .i64 bH] 27 (0, 0)) (by (with_reducible repeat (first | refine a4 ?_ _ | refine bh ?_ | refine a5 ?_ _)); refine blk_put (cs := #[.slice cy bG.length cx, .slice bV bO.length bW, .int .i64 bH]) ?_ 1 _ rfl; (with_reducible repeat (first | refine a4 ?_ _ | refine bh ?_ | refine a5 ?_ _)); refine blk_put (cs := #[.slice bX bR.length bY, .slice bV bO.length bW, .int .i64 bH]) ?_ 0 _ rfl; (with_reducible repeat (first | refine a4 ?_ _ | refine bh ?_ | refine a5 ?_ _)); exact bz.out) hb); have cj := bu (bl (g := bC) (o := .cells #[.string bN, .string bT, .bool bU, .slice cd bQ.length ce] 53 (0, 0)) (by (with_reducible repeat (first | refine a4 ?_ _ | refine bh ?_ | refine a5 ?_ _)); refine blk_far ?_ bM.out _; (with_reducible repeat (first | refine a4 ?_ _ | refine bh ?_ | refine a5 ?_ _)); refine blk_far ?_ bM.out _; (with_reducible repeat (first | refine a4 ?_ _ | refine bh ?_ | refine a5 ?_ _)); exact bB.out) hb); have cn := bu (bl (g := bD) (o := .cells #[.slice none 0 0, .slice none 0 0, .int .i64 0] 27 (0, 0)) (by (with_reducible repeat (first | refine a4 ?_ _ | refine bh ?_ | refine a5 ?_ _)); refine blk_far ?_ bL.out _; (with_reducible repeat (first | refine a4 ?_ _ | refine bh ?_ | refine a5 ?_ _)); refine blk_far ?_ bL.out _; (with_reducible repeat (first | refine a4 ?_ _ | refine bh ?_ | refine a5 ?_ _)); exact bF.out) hb); have cu := bu (below_step (by repeat (first | (with_reducible first | exact HB.out | apply bm | apply bj | apply bn | refine bi ?_ bK.out | refine bi ?_ bP.out | refine bi ?_ bZ.out) | exact HB.out)) hb); clear bE; clear bI; clear ca; clear bz; clear bB; clear bF; clear HB; have bE := cf; have bI := cg; have ca := ch; have bz := ci; have bB := cj; have bF := cn; have HB := cu; clear cf cg ch ci cj cn cu; (try clear hb); (try clear hb2); (try clear hk); (try clear hi); have hcz68_0 : w67.cell? ⟨bA, 0, none⟩ = some (.slice cy bG.length cx) := (bo bz.out 0).trans rfl; have hcz68_1 : w67.cell? ⟨bA, 1, none⟩ = some (.slice ct bJ.length cq) := (bo bz.out 1).trans rfl; have hcz68_2 : w67.cell? ⟨bA, 2, none⟩ = some (.int .i64 bH) := (bo bz.out 2).trans rfl; have hfz68_0 := bk bz.out 0; have hfz68_1 := bk bz.out 1; have hfz68_2 := bk bz.out 2; have hcz69_0 : w67.cell? ⟨bC, 0, none⟩ = some (.string bN) := (bo bB.out 0).trans rfl; have hcz69_1 : w67.cell? ⟨bC, 1, none⟩ = some (.string bT) := (bo bB.out 1).trans rfl; have hcz69_2 : w67.cell? ⟨bC, 2, none⟩ = some (.bool bU) := (bo bB.out 2).trans rfl; have hcz69_3 : w67.cell? ⟨bC, 3, none⟩ = some (.slice cd bQ.length ce) := (bo bB.out 3).trans rfl; have hfz69_0 := bk bB.out 0; have hfz69_1 := bk bB.out 1; have hfz69_2 := bk bB.out 2; have hfz69_3 := bk bB.out 3) | ((with_reducible refine gate_builtin (b := .append) (xs := #[.tmp 20, .tmp 22]) rfl ?_); at_builtin; refine Kd.N_append k53 (w0 := w) w.heap.size rfl (.tmp 20) (.tmp 22) 22 53 (.agg #[(.string ⟨#[]⟩), (.string ⟨#[]⟩), (.bool false), (.slice none 0 0)]) 64 rfl Tryd.underlying22 info53 rfl (by decide) (by omega) (.slice cy bG.length cx) bG (⟨bN, bT, bU, bQ⟩ : S53) [.string bN, .string bT, .bool bU, .slice cd bQ.length ce] (fun k_ => (ck k_ ∨ w.heap.size ≤ k_) ∧ some k_ ≠ (.slice ct bJ.length cq : Value).ownBlock ∧ k_ ≠ bA ∧ k_ ≠ bC ∧ k_ ≠ bD) (fun k_ => ((fun k_ => (ck k_ ∨ w.heap.size ≤ k_) ∧ some k_ ≠ (.slice ct bJ.length cq : Value).ownBlock ∧ k_ ≠ bA ∧ k_ ≠ bC ∧ k_ ≠ bD)) k_ ∧ some k_ ≠ (.slice cy bG.length cx : Value).ownBlock) rfl rfl ?aP (fun _ hk => hk) ?aF ?aO ?aB ?aS ?aL ?_; (case aP => exact (k53_mkF _ _ (⟨bN, bT, bU, bQ⟩ : S53) (Kd.V_reads' (Kd.V_mono (ok' := (fun k_ => ((fun k_ => (ck k_ ∨ w.heap.size ≤ k_) ∧ some k_ ≠ (.slice ct bJ.length cq : Value).ownBlock ∧ k_ ≠ bA ∧ k_ ≠ bC ∧ k_ ≠ bD)) k_ ∧ some k_ ≠ (.slice cy bG.length cx : Value).ownBlock)) (bE.out) (fun k_ hk => ⟨⟨hk.1.1.1.1.1, ⟨hk.2, ⟨hk.1.1.1.1.2, ⟨hk.1.1.1.2, hk.1.1.2⟩⟩⟩⟩, hk.1.2⟩))).2.1 (Kd.V_F (Kd.V_mono (ok' := (fun k_ => ((fun k_ => (ck k_ ∨ w.heap.size ≤ k_) ∧ some k_ ≠ (.slice ct bJ.length cq : Value).ownBlock ∧ k_ ≠ bA ∧ k_ ≠ bC ∧ k_ ≠ bD)) k_ ∧ some k_ ≠ (.slice cy bG.length cx : Value).ownBlock)) (bE.out) (fun k_ hk => ⟨⟨hk.1.1.1.1.1, ⟨hk.2, ⟨hk.1.1.1.1.2, ⟨hk.1.1.1.2, hk.1.1.2⟩⟩⟩⟩, hk.1.2⟩))))); (case aB => exact (by repeat (first | (with_reducible first | exact HB.out | apply bm | apply bj | apply bn | refine bi ?_ bK.out | refine bi ?_ bP.out | refine bi ?_ bZ.out) | exact HB.out))); (case aF => exact (fun k_ hk => ⟨(.inr (Nat.le_trans (bs (by repeat (first | (with_reducible first | exact HB.out | apply bm | apply bj | apply bn | refine bi ?_ bK.out | refine bi ?_ bP.out | refine bi ?_ bZ.out) | exact HB.out))) hk)), Kd.fresh' (Kd.R_lt (by (with_reducible repeat (first | apply Kd.R_alloc | apply Kd.R_drewN | apply Kd.R_drew)); exact ca.out)) k_ hk, Kd.freshB (g := bA) (o := .cells #[.slice cy bG.length cx, .slice ct bJ.length cq, .int .i64 bH] 27 (0, 0)) (by (with_reducible repeat (first | refine a4 ?_ _ | refine bh ?_ | refine a5 ?_ _)); exact bz.out) k_ hk, Kd.freshB (g := bC) (o := .cells #[.string bN, .string bT, .bool bU, .slice cd bQ.length ce] 53 (0, 0)) (by (with_reducible repeat (first | refine a4 ?_ _ | refine bh ?_ | refine a5 ?_ _)); exact bB.out) k_ hk, Kd.freshB (g := bD) (o := .cells #[.slice none 0 0, .slice none 0 0, .int .i64 0] 27 (0, 0)) (by (with_reducible repeat (first | refine a4 ?_ _ | refine bh ?_ | refine a5 ?_ _)); exact bF.out) k_ hk⟩)); (case aO => exact (by (with_reducible repeat (first | apply Kd.N_alloc | apply Kd.N_drewN | apply Kd.N_drew)); exact Kd.N_mono bI.out (fun _ hk => ⟨hk.1.1, ⟨hk.2, ⟨hk.1.2.1, ⟨hk.1.2.2.1, hk.1.2.2.2⟩⟩⟩⟩))); (case aS => exact (bs (by repeat (first | (with_reducible first | exact HB.out | apply bm | apply bj | apply bn | refine bi ?_ bK.out | refine bi ?_ bP.out | refine bi ?_ bZ.out) | exact HB.out)))); (case aL => have := LMc51.out; omega); intro v120 w70 ho hb hg hat; rw [← Ny119.out] at ho; have cf := bu (Kd.V_afterv (ok := (fun k_ => (ck k_ ∨ w.heap.size ≤ k_) ∧ some k_ ≠ (.slice ct bJ.length cq : Value).ownBlock ∧ k_ ≠ bA ∧ k_ ≠ bC ∧ k_ ≠ bD)) (by (with_reducible repeat (first | apply Kd.V_alloc | apply Kd.V_drewN | apply Kd.V_drew)); exact Kd.V_mono bE.out (fun _ hk => ⟨⟨hk.1.1.1.1.1, ⟨hk.2, ⟨hk.1.1.1.1.2, ⟨hk.1.1.1.2, hk.1.1.2⟩⟩⟩⟩, hk.1.2⟩)) hg hat); have cg := bu (blk_grown (g := bA) (o := .cells #[.slice cy bG.length cx, .slice ct bJ.length cq, .int .i64 bH] 27 (0, 0)) (by (with_reducible repeat (first | refine a4 ?_ _ | refine bh ?_ | refine a5 ?_ _)); exact bz.out) hg (Kd.N_ne bI.out bz.out (by decide))); have ch := bu (blk_grown (g := bC) (o := .cells #[.string bN, .string bT, .bool bU, .slice cd bQ.length ce] 53 (0, 0)) (by (with_reducible repeat (first | refine a4 ?_ _ | refine bh ?_ | refine a5 ?_ _)); exact bB.out) hg (Kd.N_away bI.out (fun _ hk => hk.1.2.2.1))); have ci := bu (blk_grown (g := bD) (o := .cells #[.slice none 0 0, .slice none 0 0, .int .i64 0] 27 (0, 0)) (by (with_reducible repeat (first | refine a4 ?_ _ | refine bh ?_ | refine a5 ?_ _)); exact bF.out) hg (Kd.N_ne bI.out bF.out (by decide))); have cj := bu (Kd.R_over' (by (with_reducible repeat (first | apply Kd.R_alloc | apply Kd.R_drewN | apply Kd.R_drew)); exact ca.out) (Kd.N_typed (by (with_reducible repeat (first | apply Kd.N_alloc | apply Kd.N_drewN | apply Kd.N_drew)); exact bI.out)) (by decide) hg); have cn := bu (hb); have cu := bu (ho); clear bE; clear bz; clear bB; clear bF; clear ca; clear HB; clear bI; have bE := cf; have bz := cg; have bB := ch; have bF := ci; have ca := cj; have HB := cn; have HO121 := cu; clear cf cg ch ci cj cn cu; clear ho hb hg hat; obtain ⟨Ao71, co71, eo71⟩ := Kd.N_slice HO121.out; subst eo71; have hcz72_0 : w70.cell? ⟨bA, 0, none⟩ = some (.slice cy bG.length cx) := (bo bz.out 0).trans rfl; have hcz72_1 : w70.cell? ⟨bA, 1, none⟩ = some (.slice ct bJ.length cq) := (bo bz.out 1).trans rfl; have hcz72_2 : w70.cell? ⟨bA, 2, none⟩ = some (.int .i64 bH) := (bo bz.out 2).trans rfl; have hfz72_0 := bk bz.out 0; have hfz72_1 := bk bz.out 1; have hfz72_2 := bk bz.out 2; have hcz73_0 : w70.cell? ⟨bD, 0, none⟩ = some (.slice none 0 0) := (bo bF.out 0).trans rfl; have hcz73_1 : w70.cell? ⟨bD, 1, none⟩ = some (.slice none 0 0) := (bo bF.out 1).trans rfl; have hcz73_2 : w70.cell? ⟨bD, 2, none⟩ = some (.int .i64 0) := (bo bF.out 2).trans rfl; have hfz73_0 := bk bF.out 0; have hfz73_1 := bk bF.out 1; have hfz73_2 := bk bF.out 2))
    refine bodyPost_ret (results_ct rfl _ _ bD 27 #[.slice Ao71 y119.length co71, .slice ct bJ.length cq, .int .i64 bH] (0, 0) _ rfl (by (with_reducible repeat (first | refine a4 ?_ _ | refine bh ?_ | refine a5 ?_ _)); refine blk_put (cs := #[.slice Ao71 y119.length co71, .slice ct bJ.length cq, .int .i64 0]) ?_ 2 _ rfl; (with_reducible repeat (first | refine a4 ?_ _ | refine bh ?_ | refine a5 ?_ _)); refine blk_put (cs := #[.slice Ao71 y119.length co71, .slice none 0 0, .int .i64 0]) ?_ 1 _ rfl; (with_reducible repeat (first | refine a4 ?_ _ | refine bh ?_ | refine a5 ?_ _)); refine blk_put (cs := #[.slice none 0 0, .slice none 0 0, .int .i64 0]) ?_ 0 _ rfl; (with_reducible repeat (first | refine a4 ?_ _ | refine bh ?_ | refine a5 ?_ _)); refine blk_far ?_ bL.out _; (with_reducible repeat (first | refine a4 ?_ _ | refine bh ?_ | refine a5 ?_ _)); exact bF.out) Tryd.underlying27 rfl (by kernel_rfl)) rfl ?_
    exact ⟨_, _, by first | rfl | (simp [errW_none, errW_some] <;> rfl) | (simp [*, errW_none, errW_some] <;> rfl), by (with_reducible repeat (first | apply Kd.N_alloc | apply Kd.N_drewN | apply Kd.N_drew)); exact Kd.N_mono (Kd.N_far (p := ⟨bD, 2, none⟩) (Kd.N_far (p := ⟨bD, 1, none⟩) (Kd.N_far (p := ⟨bD, 0, none⟩) (Kd.N_far (p := ⟨bA, 0, none⟩) (Kd.N_mono (Kd.N_mono HO121.out (fun k_ hk => (⟨hk, hk.2.2.1⟩ : _ ∧ k_ ≠ bA))) (fun k_ hk => (⟨hk, hk.1.2.2.2.2⟩ : _ ∧ k_ ≠ bD))) (fun _ hk => hk.1.2) (.slice Ao71 y119.length co71)) (fun _ hk => hk.2) (.slice Ao71 y119.length co71)) (fun _ hk => hk.2) (.slice ct bJ.length cq)) (fun _ hk => hk.2) (.int .i64 bH)) (fun _ hk => ⟨hk.1.1.1, hk.1.1.2.1⟩), by (with_reducible repeat (first | apply Kd.R_alloc | apply Kd.R_drewN | apply Kd.R_drew)); exact Kd.R_mono (Kd.R_far (p := ⟨bD, 2, none⟩) (Kd.R_far (p := ⟨bD, 1, none⟩) (Kd.R_far (p := ⟨bD, 0, none⟩) (Kd.R_far (p := ⟨bA, 0, none⟩) (Kd.R_types (Kd.R_types ca.out bz.out (by decide)) bF.out (by decide)) (fun _ hk => hk.1.2) (.slice Ao71 y119.length co71)) (fun _ hk => hk.2) (.slice Ao71 y119.length co71)) (fun _ hk => hk.2) (.slice ct bJ.length cq)) (fun _ hk => hk.2) (.int .i64 bH)) (fun _ hk => hk.1.1.1), by repeat (first | (with_reducible first | exact HB.out | apply bm | apply bj | apply bn | refine bi ?_ bK.out | refine bi ?_ bP.out | refine bi ?_ bZ.out) | exact HB.out)⟩
   ·
    rw [if_neg c51] at H
    exact absurd H (by simp)

/-! ### vars_Store_put: function 25 -/
def vars_Store_put.f (k : Nat) (l0_0 : List (S53)) (l0_1 : List ByteArray) (a0_2 : Int) (a1_0 : ByteArray) (a1_1 : ByteArray) (a1_2 : Bool) (l1_3 : List ByteArray) (l2 : List ByteArray) : Option ((List (S53)) × List ByteArray × Int × Int) := (octets_Name.f a1_0).bind fun t125 => (if t125 = true then ((vars_ask.f k l2).bind fun t126 => (if t126 = 0 then ((vars_Store_with.f l0_0 l0_1 a0_2 a1_0 a1_1 a1_2 l1_3).bind fun bt127 => (some (bt127.1, bt127.2.1, bt127.2.2.1, bt127.2.2.2))) else (some (([] : List (S53)), ([] : List ByteArray), 0, t126)))) else (some (([] : List (S53)), ([] : List ByteArray), 0, 31)))
set_option maxHeartbeats 8000000 in
set_option maxRecDepth 100000 in
theorem vars_Store_put.calls (k : Nat) (bN : Option Addr) (bO : Nat) (bH : List (S53)) (bP : Option Addr) (bQ : Nat) (bI : List ByteArray) (bL : Int) (bK : ByteArray) (bR : ByteArray) (bS : Bool) (P1_3_ : Nat → Prop) (bT : Option Addr) (bU : Nat) (bJ : List ByteArray) (A2 : Option Addr) (c2 : Nat) (l2 : List ByteArray) (r1 : List (S53)) (r2 : List ByteArray) (r3 : Int) (r4 : Int) (w : World) (hr0_0 : Kd.C k53 w bN bH.length bH) (hc0_0 : bH.length ≤ bO) (hr0_1 : Kd.C Kd.string w bP bI.length bI) (hc0_1 : bI.length ≤ bQ) (hs1_3 : Kd.V Kd.string 9 w w.heap.size (fun k_ => P1_3_ k_) (.slice bT bJ.length bU) bJ) (hr2 : Kd.C Kd.string w A2 l2.length l2) (hc2 : l2.length ≤ c2) (h : vars_Store_put.f k bH bI bL bK bR bS bJ l2 = some (r1, r2, r3, r4)) :
  Calls Tryd.prog 25 #[.agg #[.slice bN bH.length bO, .slice bP bI.length bQ, .int .i64 bL], .agg #[.string bK, .string bR, .bool bS, .slice bT bJ.length bU], .slice A2 l2.length c2] w fun e w' => ∃ v0_ v1_ : Value, e = .returned (.tuple #[.agg #[v0_, v1_, .int .i64 r3], .int .i64 r4]) ∧ Kd.N k53 53 w' w.heap.size (fun k_ => (P1_3_ k_ ∨ w.heap.size ≤ k_) ∧ some k_ ≠ (v1_ : Value).ownBlock) v0_ r1 ∧ Kd.R Kd.string 9 w' w.heap.size (fun k_ => (w.heap.size ≤ k_)) v1_ r2 ∧ Below w.heap.size w w' := by
 have hu27 := Tryd.underlying27
 have hu53 := Tryd.underlying53
 have HR0_0 := bu hr0_0
 have HC0_0 := bu hc0_0
 clear hr0_0 hc0_0
 have HR0_1 := bu hr0_1
 have HC0_1 := bu hc0_1
 clear hr0_1 hc0_1
 have bE := bu (show Kd.V Kd.string 9 w w.heap.size (fun k_ => (P1_3_ k_ ∨ w.heap.size ≤ k_)) (.slice bT bJ.length bU) bJ from Kd.V_mono hs1_3 (fun k_ hk => .inl hk))
 have HR2 := bu hr2
 have HC2 := bu hc2
 clear hr2 hc2
 have HB := bu (bw w.heap.size w)
 have H : ((octets_Name.f bK).bind fun t125 => (if t125 = true then ((vars_ask.f k l2).bind fun ci => (if ci = 0 then ((vars_Store_with.f bH bI bL bK bR bS bJ).bind fun bV => (some (bV.1, bV.2.1, bV.2.2.1, bV.2.2.2))) else (some (([] : List (S53)), ([] : List ByteArray), 0, ci)))) else (some (([] : List (S53)), ([] : List ByteArray), 0, 31)))) = some (r1, r2, r3, r4) := h
 clear h
 replace H := Option.bind_eq_some_iff.mp H
 obtain ⟨t125, A40, H⟩ := H
 replace H : (if t125 = true then ((vars_ask.f k l2).bind fun ci => (if ci = 0 then ((vars_Store_with.f bH bI bL bK bR bS bJ).bind fun bV => (some (bV.1, bV.2.1, bV.2.2.1, bV.2.2.2))) else (some (([] : List (S53)), ([] : List ByteArray), 0, ci)))) else (some (([] : List (S53)), ([] : List ByteArray), 0, 31))) = some (r1, r2, r3, r4) := H
 have A4 := bu A40
 clear A40
 by_cases c5 : t125 = true
 ·
  subst c5
  have H1 : ((vars_ask.f k l2).bind fun ci => (if ci = 0 then ((vars_Store_with.f bH bI bL bK bR bS bJ).bind fun bV => (some (bV.1, bV.2.1, bV.2.2.1, bV.2.2.2))) else (some (([] : List (S53)), ([] : List ByteArray), 0, ci)))) = some (r1, r2, r3, r4) := by rw [if_pos rfl] at H; exact H
  clear H
  have H := H1
  clear H1
  replace H := Option.bind_eq_some_iff.mp H
  obtain ⟨ci, A60, H⟩ := H
  replace H : (if ci = 0 then ((vars_Store_with.f bH bI bL bK bR bS bJ).bind fun bV => (some (bV.1, bV.2.1, bV.2.2.1, bV.2.2.2))) else (some (([] : List (S53)), ([] : List ByteArray), 0, ci))) = some (r1, r2, r3, r4) := H
  have A6 := bu A60
  clear A60
  by_cases c7 : ci = 0
  ·
   rw [if_pos c7] at H
   have c7b0 : (ci == 0) = true := beq_iff_eq.mpr c7
   have c7b1 : (ci != 0) = false := bne_eq_false_iff_eq.mpr c7
   clear c7
   replace H := Option.bind_eq_some_iff.mp H
   obtain ⟨⟨t127, t130, t133, t134⟩, A80, H⟩ := H
   replace H : (some (t127, t130, t133, t134)) = some (r1, r2, r3, r4) := H
   have A8 := bu A80
   clear A80
   simp only [Option.some.injEq, Prod.mk.injEq] at H
   obtain ⟨rfl, rfl, rfl, rfl⟩ := H
   go_enter Tryd.func25, Tryd.ntmps25
   go_wp2_with (first | ((with_reducible refine gate_dst (N := 3) rfl ?_); refine box_event ?hg (N := 3) ?hd (cs := #[.slice bN bH.length bO, .slice bP bI.length bQ, .int .i64 bL]) (t := 27) ?hr ?_; (case hd => rfl); (case hg => rfl); (case hr => first | (go_simp; done) | (go_simp; rfl)); intro bC hg w9 hbox hb; have bX := bu (Kd.V_below (Kd.V_elderB (by (with_reducible repeat (first | apply Kd.V_alloc | apply Kd.V_drewN | apply Kd.V_drew)); exact bE.out) bC (Nat.le_of_eq hg.symm)) hb); have bY := bu (below_step (by repeat (first | (with_reducible first | exact HB.out | apply bm | apply bj | apply bn) | exact HB.out)) hb); have bZ := bu (hbox); have ca := bu ((by rw [hg]; exact (bs (by repeat (first | (with_reducible first | exact HB.out | apply bm | apply bj | apply bn) | exact HB.out))) : w.heap.size ≤ bC)); have cb := bu ((by rw [hg]; exact (bs (by repeat (first | (with_reducible first | exact HB.out | apply bm | apply bj | apply bn) | exact HB.out))) : w.heap.size ≤ bC)); clear bE; clear HB; have bE := bX; have HB := bY; have bB := bZ; have GW122 := ca; have bG := cb; clear bX bY bZ ca cb; clear hb hbox hg) | ((with_reducible refine gate_dst (N := 4) rfl ?_); refine box_event ?hg (N := 4) ?hd (cs := #[.string bK, .string bR, .bool bS, .slice bT bJ.length bU]) (t := 53) ?hr ?_; (case hd => rfl); (case hg => rfl); (case hr => first | (go_simp; done) | (go_simp; rfl)); intro bA hg w10 hbox hb; have bX := bu (Kd.V_below (Kd.V_elderB (by (with_reducible repeat (first | apply Kd.V_alloc | apply Kd.V_drewN | apply Kd.V_drew)); exact bE.out) bA (Nat.le_of_eq hg.symm)) hb); have bY := bu (bl (g := bC) (o := .cells #[.slice bN bH.length bO, .slice bP bI.length bQ, .int .i64 bL] 27 (0, 0)) (by (with_reducible repeat (first | refine a4 ?_ _ | refine bh ?_ | refine a5 ?_ _)); exact bB.out) hb); have bZ := bu (below_step (by repeat (first | (with_reducible first | exact HB.out | apply bm | apply bj | apply bn | refine bi ?_ bG.out) | exact HB.out)) hb); have ca := bu (hbox); have cb := bu ((by rw [hg]; exact (bs (by repeat (first | (with_reducible first | exact HB.out | apply bm | apply bj | apply bn | refine bi ?_ bG.out) | exact HB.out))) : w.heap.size ≤ bA)); have n5_ := bu ((by rw [hg]; exact (bs (by repeat (first | (with_reducible first | exact HB.out | apply bm | apply bj | apply bn | refine bi ?_ bG.out) | exact HB.out))) : w.heap.size ≤ bA)); have n6_ := bu ((by rw [hg]; exact Nat.ne_of_lt (blk_lt (g := bC) (o := .cells #[.slice bN bH.length bO, .slice bP bI.length bQ, .int .i64 bL] 27 (0, 0)) (by (with_reducible repeat (first | refine a4 ?_ _ | refine bh ?_ | refine a5 ?_ _)); exact bB.out)) : bC ≠ bA)); have n7_ := bu ((by rw [hg]; exact Nat.ne_of_gt (blk_lt (g := bC) (o := .cells #[.slice bN bH.length bO, .slice bP bI.length bQ, .int .i64 bL] 27 (0, 0)) (by (with_reducible repeat (first | refine a4 ?_ _ | refine bh ?_ | refine a5 ?_ _)); exact bB.out)) : bA ≠ bC)); clear bE; clear bB; clear HB; have bE := bX; have bB := bY; have HB := bZ; have bz := ca; have GW123 := cb; have bM := n5_; have cc := n6_; have cd := n7_; clear bX bY bZ ca cb n5_ n6_ n7_; clear hb hbox hg) | ((with_reducible refine gate_dst (N := 6) rfl ?_); refine box_event ?hg (N := 6) ?hd (cs := #[.slice none 0 0, .slice none 0 0, .int .i64 0]) (t := 27) ?hr ?_; (case hd => rfl); (case hg => rfl); (case hr => first | (go_simp; done) | (go_simp; rfl)); intro bD hg w11 hbox hb; have bX := bu (Kd.V_below (Kd.V_elderB (by (with_reducible repeat (first | apply Kd.V_alloc | apply Kd.V_drewN | apply Kd.V_drew)); exact bE.out) bD (Nat.le_of_eq hg.symm)) hb); have bY := bu (bl (g := bC) (o := .cells #[.slice bN bH.length bO, .slice bP bI.length bQ, .int .i64 bL] 27 (0, 0)) (by (with_reducible repeat (first | refine a4 ?_ _ | refine bh ?_ | refine a5 ?_ _)); exact bB.out) hb); have bZ := bu (bl (g := bA) (o := .cells #[.string bK, .string bR, .bool bS, .slice bT bJ.length bU] 53 (0, 0)) (by (with_reducible repeat (first | refine a4 ?_ _ | refine bh ?_ | refine a5 ?_ _)); exact bz.out) hb); have ca := bu (below_step (by repeat (first | (with_reducible first | exact HB.out | apply bm | apply bj | apply bn | refine bi ?_ bG.out | refine bi ?_ bM.out) | exact HB.out)) hb); have cb := bu (hbox); have n5_ := bu ((by rw [hg]; exact (bs (by repeat (first | (with_reducible first | exact HB.out | apply bm | apply bj | apply bn | refine bi ?_ bG.out | refine bi ?_ bM.out) | exact HB.out))) : w.heap.size ≤ bD)); have n6_ := bu ((by rw [hg]; exact (bs (by repeat (first | (with_reducible first | exact HB.out | apply bm | apply bj | apply bn | refine bi ?_ bG.out | refine bi ?_ bM.out) | exact HB.out))) : w.heap.size ≤ bD)); have n7_ := bu ((by rw [hg]; exact Nat.ne_of_lt (blk_lt (g := bC) (o := .cells #[.slice bN bH.length bO, .slice bP bI.length bQ, .int .i64 bL] 27 (0, 0)) (by (with_reducible repeat (first | refine a4 ?_ _ | refine bh ?_ | refine a5 ?_ _)); exact bB.out)) : bC ≠ bD)); have n8_ := bu ((by rw [hg]; exact Nat.ne_of_gt (blk_lt (g := bC) (o := .cells #[.slice bN bH.length bO, .slice bP bI.length bQ, .int .i64 bL] 27 (0, 0)) (by (with_reducible repeat (first | refine a4 ?_ _ | refine bh ?_ | refine a5 ?_ _)); exact bB.out)) : bD ≠ bC)); have n9_ := bu ((by rw [hg]; exact Nat.ne_of_lt (blk_lt (g := bA) (o := .cells #[.string bK, .string bR, .bool bS, .slice bT bJ.length bU] 53 (0, 0)) (by (with_reducible repeat (first | refine a4 ?_ _ | refine bh ?_ | refine a5 ?_ _)); exact bz.out)) : bA ≠ bD)); have n10_ := bu ((by rw [hg]; exact Nat.ne_of_gt (blk_lt (g := bA) (o := .cells #[.string bK, .string bR, .bool bS, .slice bT bJ.length bU] 53 (0, 0)) (by (with_reducible repeat (first | refine a4 ?_ _ | refine bh ?_ | refine a5 ?_ _)); exact bz.out)) : bD ≠ bA)); clear bE; clear bB; clear bz; clear HB; have bE := bX; have bB := bY; have bz := bZ; have HB := ca; have bF := cb; have GW124 := n5_; have bW := n6_; have ce := n7_; have cf := n8_; have cg := n9_; have ch := n10_; clear bX bY bZ ca cb n5_ n6_ n7_ n8_ n9_ n10_; clear hb hbox hg; have hnb12 := cd.out; have hnc12 := cc.out; have hnb13 := cg.out; have hnc13 := ch.out; have hcz14_0 : w11.cell? ⟨bA, 0, none⟩ = some (.string bK) := (bo bz.out 0).trans rfl; have hcz14_1 : w11.cell? ⟨bA, 1, none⟩ = some (.string bR) := (bo bz.out 1).trans rfl; have hcz14_2 : w11.cell? ⟨bA, 2, none⟩ = some (.bool bS) := (bo bz.out 2).trans rfl; have hcz14_3 : w11.cell? ⟨bA, 3, none⟩ = some (.slice bT bJ.length bU) := (bo bz.out 3).trans rfl; have hfz14_0 := bk bz.out 0; have hfz14_1 := bk bz.out 1; have hfz14_2 := bk bz.out 2; have hfz14_3 := bk bz.out 3) | ((with_reducible refine bv (f := 34) rfl ?_); refine goesL_ (some 11) rfl rfl Tryd.func34 (by kernel_rfl) rfl #[.string bK] rfl (by (try simp only [List.map_toArray, List.map_cons, List.map_nil]); first | done | rfl | (simp only [List.length_drop, List.length_take]; rfl)) ?_; (with_reducible refine (octets_Name.calls bK true _ A4.out).mono ?_); rintro e w15 ⟨rfl, hb⟩; refine ⟨_, rfl, ?_⟩; have bX := bu (Kd.V_below (by (with_reducible repeat (first | apply Kd.V_alloc | apply Kd.V_drewN | apply Kd.V_drew)); exact bE.out) hb); have bY := bu (bl (g := bC) (o := .cells #[.slice bN bH.length bO, .slice bP bI.length bQ, .int .i64 bL] 27 (0, 0)) (by (with_reducible repeat (first | refine a4 ?_ _ | refine bh ?_ | refine a5 ?_ _)); exact bB.out) hb); have bZ := bu (bl (g := bA) (o := .cells #[.string bK, .string bR, .bool bS, .slice bT bJ.length bU] 53 (0, 0)) (by (with_reducible repeat (first | refine a4 ?_ _ | refine bh ?_ | refine a5 ?_ _)); exact bz.out) hb); have ca := bu (bl (g := bD) (o := .cells #[.slice none 0 0, .slice none 0 0, .int .i64 0] 27 (0, 0)) (by (with_reducible repeat (first | refine a4 ?_ _ | refine bh ?_ | refine a5 ?_ _)); exact bF.out) hb); have cb := bu (below_step (by repeat (first | (with_reducible first | exact HB.out | apply bm | apply bj | apply bn | refine bi ?_ bG.out | refine bi ?_ bM.out | refine bi ?_ bW.out) | exact HB.out)) hb); clear bE; clear bB; clear bz; clear bF; clear HB; have bE := bX; have bB := bY; have bz := bZ; have bF := ca; have HB := cb; clear bX bY bZ ca cb; (try clear hb); (try clear hb2); (try clear hk); (try clear hi)) | ((with_reducible refine bv (f := 44) rfl ?_); refine goesL_ (some 15) rfl rfl Tryd.func44 (by kernel_rfl) rfl #[.slice A2 l2.length c2] rfl (by (try simp only [List.map_toArray, List.map_cons, List.map_nil]); first | done | rfl | (simp only [List.length_drop, List.length_take]; rfl)) ?_; (with_reducible refine (vars_ask.calls k _ _ l2 ci _ ?side1 ?side2 A6.out).mono ?_); (case side1 => repeat (first | exact (br HR2.out HB.out) | (with_reducible refine bp ?_ _) | (with_reducible refine bq ?_ _) | (with_reducible refine Kd.C_drew ?_))); (case side2 => exact HC2.out); rintro e w' ⟨rfl, ⟨nd, rfl⟩⟩; refine ⟨_, rfl, ?_⟩; (try (rw [drewN_self w15]; generalize hq_ : World.drewN w15 _ = w15; have bX : Aside0 (Kd.V Kd.string 9 w15 w.heap.size (fun k_ => (P1_3_ k_ ∨ w.heap.size ≤ k_) ∧ k_ ≠ bC ∧ k_ ≠ bA ∧ k_ ≠ bD) (.slice bT bJ.length bU) bJ) := ⟨by rw [← hq_]; exact (by (with_reducible repeat (first | apply Kd.V_alloc | apply Kd.V_drewN | apply Kd.V_drew)); exact Kd.V_mono bE.out (fun _ hk => ⟨hk.1.1.1, ⟨hk.1.1.2, ⟨hk.1.2, hk.2⟩⟩⟩))⟩; have bY : Aside0 (w15.heap[bC]? = some (.cells #[.slice bN bH.length bO, .slice bP bI.length bQ, .int .i64 bL] 27 (0, 0))) := ⟨by rw [← hq_]; exact (by (with_reducible repeat (first | refine a4 ?_ _ | refine bh ?_ | refine a5 ?_ _)); exact bB.out)⟩; have bZ : Aside0 (w15.heap[bA]? = some (.cells #[.string bK, .string bR, .bool bS, .slice bT bJ.length bU] 53 (0, 0))) := ⟨by rw [← hq_]; exact (by (with_reducible repeat (first | refine a4 ?_ _ | refine bh ?_ | refine a5 ?_ _)); exact bz.out)⟩; have ca : Aside0 (w15.heap[bD]? = some (.cells #[.slice none 0 0, .slice none 0 0, .int .i64 0] 27 (0, 0))) := ⟨by rw [← hq_]; exact (by (with_reducible repeat (first | refine a4 ?_ _ | refine bh ?_ | refine a5 ?_ _)); exact bF.out)⟩; have cb : Aside0 (Below w.heap.size w w15) := ⟨by rw [← hq_]; exact (by repeat (first | (with_reducible first | exact HB.out | apply bm | apply bj | apply bn | refine bi ?_ bG.out | refine bi ?_ bM.out | refine bi ?_ bW.out) | exact HB.out))⟩; clear bE bB bz bF HB hq_; have bE := bX; have bB := bY; have bz := bZ; have bF := ca; have HB := cb; clear bX bY bZ ca cb)); have hnb16 := ce.out; have hnc16 := cf.out; have hcz17_0 : w15.cell? ⟨bC, 0, none⟩ = some (.slice bN bH.length bO) := (bo bB.out 0).trans rfl; have hcz17_1 : w15.cell? ⟨bC, 1, none⟩ = some (.slice bP bI.length bQ) := (bo bB.out 1).trans rfl; have hcz17_2 : w15.cell? ⟨bC, 2, none⟩ = some (.int .i64 bL) := (bo bB.out 2).trans rfl; have hfz17_0 := bk bB.out 0; have hfz17_1 := bk bB.out 1; have hfz17_2 := bk bB.out 2; have hcz18_0 : w15.cell? ⟨bA, 0, none⟩ = some (.string bK) := (bo bz.out 0).trans rfl; have hcz18_1 : w15.cell? ⟨bA, 1, none⟩ = some (.string bR) := (bo bz.out 1).trans rfl; have hcz18_2 : w15.cell? ⟨bA, 2, none⟩ = some (.bool bS) := (bo bz.out 2).trans rfl; have hcz18_3 : w15.cell? ⟨bA, 3, none⟩ = some (.slice bT bJ.length bU) := (bo bz.out 3).trans rfl; have hfz18_0 := bk bz.out 0; have hfz18_1 := bk bz.out 1; have hfz18_2 := bk bz.out 2; have hfz18_3 := bk bz.out 3) | ((with_reducible refine bv (f := 46) rfl ?_); refine goesL_ (some 22) rfl rfl Tryd.func46 (by kernel_rfl) rfl #[.agg #[.slice bN bH.length bO, .slice bP bI.length bQ, .int .i64 bL], .agg #[.string bK, .string bR, .bool bS, .slice bT bJ.length bU]] rfl (by (try simp only [List.map_toArray, List.map_cons, List.map_nil]); first | done | rfl | (simp only [List.length_drop, List.length_take]; rfl)) ?_; (with_reducible refine (vars_Store_with.calls _ _ bH _ _ bI bL bK bR bS (fun k_ => ((((P1_3_ k_ ∨ w.heap.size ≤ k_) ∧ k_ ≠ bC) ∧ k_ ≠ bA) ∧ k_ ≠ bD)) _ _ bJ t127 t130 t133 t134 _ ?side1 ?side2 ?side3 ?side4 ?side5 A8.out).mono ?_); (case side1 => repeat (first | exact (br HR0_0.out HB.out) | (with_reducible refine bp ?_ _) | (with_reducible refine bq ?_ _) | (with_reducible refine Kd.C_drew ?_))); (case side2 => exact HC0_0.out); (case side3 => repeat (first | exact (br HR0_1.out HB.out) | (with_reducible refine bp ?_ _) | (with_reducible refine bq ?_ _) | (with_reducible refine Kd.C_drew ?_))); (case side4 => exact HC0_1.out); (case side5 => exact XC.V_any bE.out (fun k_ hk => by obtain ⟨h1, h2, h3, h4⟩ := hk; exact ⟨⟨⟨h1, h2⟩, h3⟩, h4⟩)); rintro e w19 ⟨v128, v131, rfl, ho0, ho1, hb⟩; refine ⟨_, rfl, ?_⟩; have bX := bu (Kd.V_mono (Kd.V_told (Kd.V_told (Kd.V_old (by (with_reducible repeat (first | apply Kd.V_alloc | apply Kd.V_drewN | apply Kd.V_drew)); exact bE.out) hb) (Kd.N_base ho0)) (Kd.R_base ho1)) (fun _ h_ => h_.1)); have bY := bu (Kd.N_lower (Kd.N_mono (ok' := fun k_ => (P1_3_ k_ ∨ w.heap.size ≤ k_) ∧ some k_ ≠ (v131 : Value).ownBlock ∧ k_ ≠ bC ∧ k_ ≠ bA ∧ k_ ≠ bD) ho0 (fun k_ hk_ => ⟨Or.elim hk_.1 (fun hs_ => hs_.1.1.1) (fun hn_ => (.inr (Nat.le_trans (bs (by repeat (first | (with_reducible first | exact HB.out | apply bm | apply bj | apply bn | refine bi ?_ bG.out | refine bi ?_ bM.out | refine bi ?_ bW.out) | exact HB.out))) hn_))), hk_.2, Or.elim hk_.1 (fun hs_ => hs_.1.1.2) (fun hn_ => (Kd.freshB (g := bC) (o := .cells #[.slice bN bH.length bO, .slice bP bI.length bQ, .int .i64 bL] 27 (0, 0)) (by (with_reducible repeat (first | refine a4 ?_ _ | refine bh ?_ | refine a5 ?_ _)); exact bB.out) k_ hn_)), Or.elim hk_.1 (fun hs_ => hs_.1.2) (fun hn_ => (Kd.freshB (g := bA) (o := .cells #[.string bK, .string bR, .bool bS, .slice bT bJ.length bU] 53 (0, 0)) (by (with_reducible repeat (first | refine a4 ?_ _ | refine bh ?_ | refine a5 ?_ _)); exact bz.out) k_ hn_)), Or.elim hk_.1 (fun hs_ => hs_.2) (fun hn_ => (Kd.freshB (g := bD) (o := .cells #[.slice none 0 0, .slice none 0 0, .int .i64 0] 27 (0, 0)) (by (with_reducible repeat (first | refine a4 ?_ _ | refine bh ?_ | refine a5 ?_ _)); exact bF.out) k_ hn_))⟩)) (bs (by repeat (first | (with_reducible first | exact HB.out | apply bm | apply bj | apply bn | refine bi ?_ bG.out | refine bi ?_ bM.out | refine bi ?_ bW.out) | exact HB.out)))); have bZ := bu (Kd.R_lower (Kd.R_newM (M := fun k_ => (w.heap.size ≤ k_)) (Kd.R_mono (ok' := fun k_ => True) ho1 (fun _ hk_ => trivial)) (bs (by repeat (first | (with_reducible first | exact HB.out | apply bm | apply bj | apply bn | refine bi ?_ bG.out | refine bi ?_ bM.out | refine bi ?_ bW.out) | exact HB.out))) (fun k_ h_ => h_)) (bs (by repeat (first | (with_reducible first | exact HB.out | apply bm | apply bj | apply bn | refine bi ?_ bG.out | refine bi ?_ bM.out | refine bi ?_ bW.out) | exact HB.out)))); have ca := bu (bl (g := bC) (o := .cells #[.slice bN bH.length bO, .slice bP bI.length bQ, .int .i64 bL] 27 (0, 0)) (by (with_reducible repeat (first | refine a4 ?_ _ | refine bh ?_ | refine a5 ?_ _)); exact bB.out) hb); have cb := bu (bl (g := bA) (o := .cells #[.string bK, .string bR, .bool bS, .slice bT bJ.length bU] 53 (0, 0)) (by (with_reducible repeat (first | refine a4 ?_ _ | refine bh ?_ | refine a5 ?_ _)); exact bz.out) hb); have n5_ := bu (bl (g := bD) (o := .cells #[.slice none 0 0, .slice none 0 0, .int .i64 0] 27 (0, 0)) (by (with_reducible repeat (first | refine a4 ?_ _ | refine bh ?_ | refine a5 ?_ _)); exact bF.out) hb); have n6_ := bu (below_step (by repeat (first | (with_reducible first | exact HB.out | apply bm | apply bj | apply bn | refine bi ?_ bG.out | refine bi ?_ bM.out | refine bi ?_ bW.out) | exact HB.out)) hb); clear bE; clear bB; clear bz; clear bF; clear HB; have bE := bX; have HO129 := bY; have HO132 := bZ; have bB := ca; have bz := cb; have bF := n5_; have HB := n6_; clear bX bY bZ ca cb n5_ n6_; (try clear hb); (try clear hb2); (try clear hk); (try clear hi); (try clear ho0); (try clear ho1); obtain ⟨Ao20, co20, eo20⟩ := Kd.N_slice HO129.out; subst eo20; have hcz21_0 : w19.cell? ⟨bD, 0, none⟩ = some (.slice none 0 0) := (bo bF.out 0).trans rfl; have hcz21_1 : w19.cell? ⟨bD, 1, none⟩ = some (.slice none 0 0) := (bo bF.out 1).trans rfl; have hcz21_2 : w19.cell? ⟨bD, 2, none⟩ = some (.int .i64 0) := (bo bF.out 2).trans rfl; have hfz21_0 := bk bF.out 0; have hfz21_1 := bk bF.out 1; have hfz21_2 := bk bF.out 2; obtain ⟨Ao22, co22, eo22⟩ := Kd.R_slice HO132.out; subst eo22))
   refine bodyPost_ret (results_ct rfl _ _ bD 27 #[.slice Ao20 t127.length co20, .slice Ao22 t130.length co22, .int .i64 t133] (0, 0) _ rfl (by (with_reducible repeat (first | refine a4 ?_ _ | refine bh ?_ | refine a5 ?_ _)); refine blk_put (cs := #[.slice Ao20 t127.length co20, .slice Ao22 t130.length co22, .int .i64 0]) ?_ 2 _ rfl; (with_reducible repeat (first | refine a4 ?_ _ | refine bh ?_ | refine a5 ?_ _)); refine blk_put (cs := #[.slice Ao20 t127.length co20, .slice none 0 0, .int .i64 0]) ?_ 1 _ rfl; (with_reducible repeat (first | refine a4 ?_ _ | refine bh ?_ | refine a5 ?_ _)); refine blk_put (cs := #[.slice none 0 0, .slice none 0 0, .int .i64 0]) ?_ 0 _ rfl; (with_reducible repeat (first | refine a4 ?_ _ | refine bh ?_ | refine a5 ?_ _)); exact bF.out) Tryd.underlying27 rfl (by kernel_rfl)) rfl ?_
   exact ⟨_, _, by first | rfl | (simp [errW_none, errW_some] <;> rfl) | (simp [*, errW_none, errW_some] <;> rfl), by (with_reducible repeat (first | apply Kd.N_alloc | apply Kd.N_drewN | apply Kd.N_drew)); exact Kd.N_mono (Kd.N_far (p := ⟨bD, 2, none⟩) (Kd.N_far (p := ⟨bD, 1, none⟩) (Kd.N_far (p := ⟨bD, 0, none⟩) (Kd.N_mono HO129.out (fun k_ hk => (⟨hk, hk.2.2.2.2⟩ : _ ∧ k_ ≠ bD))) (fun _ hk => hk.2) (.slice Ao20 t127.length co20)) (fun _ hk => hk.2) (.slice Ao22 t130.length co22)) (fun _ hk => hk.2) (.int .i64 t133)) (fun _ hk => ⟨hk.1.1, hk.1.2.1⟩), by (with_reducible repeat (first | apply Kd.R_alloc | apply Kd.R_drewN | apply Kd.R_drew)); exact Kd.R_mono (Kd.R_far (p := ⟨bD, 2, none⟩) (Kd.R_far (p := ⟨bD, 1, none⟩) (Kd.R_far (p := ⟨bD, 0, none⟩) (Kd.R_types HO132.out bF.out (by decide)) (fun _ hk => hk.2) (.slice Ao20 t127.length co20)) (fun _ hk => hk.2) (.slice Ao22 t130.length co22)) (fun _ hk => hk.2) (.int .i64 t133)) (fun _ hk => hk.1.1), by repeat (first | (with_reducible first | exact HB.out | apply bm | apply bj | apply bn | refine bi ?_ bG.out | refine bi ?_ bM.out | refine bi ?_ bW.out) | exact HB.out)⟩
  ·
   rw [if_neg c7] at H
   have c7b0 : (ci == 0) = false := beq_eq_false_iff_ne.mpr c7
   have c7b1 : (ci != 0) = true := bne_iff_ne.mpr c7
   simp only [Option.some.injEq, Prod.mk.injEq] at H
   obtain ⟨rfl, rfl, rfl, rfl⟩ := H
   go_enter Tryd.func25, Tryd.ntmps25
   go_wp2_with (first | ((with_reducible refine gate_dst (N := 3) rfl ?_); refine box_event ?hg (N := 3) ?hd (cs := #[.slice bN bH.length bO, .slice bP bI.length bQ, .int .i64 bL]) (t := 27) ?hr ?_; (case hd => rfl); (case hg => rfl); (case hr => first | (go_simp; done) | (go_simp; rfl)); intro bC hg w23 hbox hb; have bX := bu (Kd.V_below (Kd.V_elderB (by (with_reducible repeat (first | apply Kd.V_alloc | apply Kd.V_drewN | apply Kd.V_drew)); exact bE.out) bC (Nat.le_of_eq hg.symm)) hb); have bY := bu (below_step (by repeat (first | (with_reducible first | exact HB.out | apply bm | apply bj | apply bn) | exact HB.out)) hb); have bZ := bu (hbox); have ca := bu ((by rw [hg]; exact (bs (by repeat (first | (with_reducible first | exact HB.out | apply bm | apply bj | apply bn) | exact HB.out))) : w.heap.size ≤ bC)); have cb := bu ((by rw [hg]; exact (bs (by repeat (first | (with_reducible first | exact HB.out | apply bm | apply bj | apply bn) | exact HB.out))) : w.heap.size ≤ bC)); clear bE; clear HB; have bE := bX; have HB := bY; have bB := bZ; have GW122 := ca; have bG := cb; clear bX bY bZ ca cb; clear hb hbox hg) | ((with_reducible refine gate_dst (N := 4) rfl ?_); refine box_event ?hg (N := 4) ?hd (cs := #[.string bK, .string bR, .bool bS, .slice bT bJ.length bU]) (t := 53) ?hr ?_; (case hd => rfl); (case hg => rfl); (case hr => first | (go_simp; done) | (go_simp; rfl)); intro bA hg w24 hbox hb; have bX := bu (Kd.V_below (Kd.V_elderB (by (with_reducible repeat (first | apply Kd.V_alloc | apply Kd.V_drewN | apply Kd.V_drew)); exact bE.out) bA (Nat.le_of_eq hg.symm)) hb); have bY := bu (bl (g := bC) (o := .cells #[.slice bN bH.length bO, .slice bP bI.length bQ, .int .i64 bL] 27 (0, 0)) (by (with_reducible repeat (first | refine a4 ?_ _ | refine bh ?_ | refine a5 ?_ _)); exact bB.out) hb); have bZ := bu (below_step (by repeat (first | (with_reducible first | exact HB.out | apply bm | apply bj | apply bn | refine bi ?_ bG.out) | exact HB.out)) hb); have ca := bu (hbox); have cb := bu ((by rw [hg]; exact (bs (by repeat (first | (with_reducible first | exact HB.out | apply bm | apply bj | apply bn | refine bi ?_ bG.out) | exact HB.out))) : w.heap.size ≤ bA)); have n5_ := bu ((by rw [hg]; exact (bs (by repeat (first | (with_reducible first | exact HB.out | apply bm | apply bj | apply bn | refine bi ?_ bG.out) | exact HB.out))) : w.heap.size ≤ bA)); have n6_ := bu ((by rw [hg]; exact Nat.ne_of_lt (blk_lt (g := bC) (o := .cells #[.slice bN bH.length bO, .slice bP bI.length bQ, .int .i64 bL] 27 (0, 0)) (by (with_reducible repeat (first | refine a4 ?_ _ | refine bh ?_ | refine a5 ?_ _)); exact bB.out)) : bC ≠ bA)); have n7_ := bu ((by rw [hg]; exact Nat.ne_of_gt (blk_lt (g := bC) (o := .cells #[.slice bN bH.length bO, .slice bP bI.length bQ, .int .i64 bL] 27 (0, 0)) (by (with_reducible repeat (first | refine a4 ?_ _ | refine bh ?_ | refine a5 ?_ _)); exact bB.out)) : bA ≠ bC)); clear bE; clear bB; clear HB; have bE := bX; have bB := bY; have HB := bZ; have bz := ca; have GW123 := cb; have bM := n5_; have cc := n6_; have cd := n7_; clear bX bY bZ ca cb n5_ n6_ n7_; clear hb hbox hg) | ((with_reducible refine gate_dst (N := 6) rfl ?_); refine box_event ?hg (N := 6) ?hd (cs := #[.slice none 0 0, .slice none 0 0, .int .i64 0]) (t := 27) ?hr ?_; (case hd => rfl); (case hg => rfl); (case hr => first | (go_simp; done) | (go_simp; rfl)); intro bD hg w25 hbox hb; have bX := bu (Kd.V_below (Kd.V_elderB (by (with_reducible repeat (first | apply Kd.V_alloc | apply Kd.V_drewN | apply Kd.V_drew)); exact bE.out) bD (Nat.le_of_eq hg.symm)) hb); have bY := bu (bl (g := bC) (o := .cells #[.slice bN bH.length bO, .slice bP bI.length bQ, .int .i64 bL] 27 (0, 0)) (by (with_reducible repeat (first | refine a4 ?_ _ | refine bh ?_ | refine a5 ?_ _)); exact bB.out) hb); have bZ := bu (bl (g := bA) (o := .cells #[.string bK, .string bR, .bool bS, .slice bT bJ.length bU] 53 (0, 0)) (by (with_reducible repeat (first | refine a4 ?_ _ | refine bh ?_ | refine a5 ?_ _)); exact bz.out) hb); have ca := bu (below_step (by repeat (first | (with_reducible first | exact HB.out | apply bm | apply bj | apply bn | refine bi ?_ bG.out | refine bi ?_ bM.out) | exact HB.out)) hb); have cb := bu (hbox); have n5_ := bu ((by rw [hg]; exact (bs (by repeat (first | (with_reducible first | exact HB.out | apply bm | apply bj | apply bn | refine bi ?_ bG.out | refine bi ?_ bM.out) | exact HB.out))) : w.heap.size ≤ bD)); have n6_ := bu ((by rw [hg]; exact (bs (by repeat (first | (with_reducible first | exact HB.out | apply bm | apply bj | apply bn | refine bi ?_ bG.out | refine bi ?_ bM.out) | exact HB.out))) : w.heap.size ≤ bD)); have n7_ := bu ((by rw [hg]; exact Nat.ne_of_lt (blk_lt (g := bC) (o := .cells #[.slice bN bH.length bO, .slice bP bI.length bQ, .int .i64 bL] 27 (0, 0)) (by (with_reducible repeat (first | refine a4 ?_ _ | refine bh ?_ | refine a5 ?_ _)); exact bB.out)) : bC ≠ bD)); have n8_ := bu ((by rw [hg]; exact Nat.ne_of_gt (blk_lt (g := bC) (o := .cells #[.slice bN bH.length bO, .slice bP bI.length bQ, .int .i64 bL] 27 (0, 0)) (by (with_reducible repeat (first | refine a4 ?_ _ | refine bh ?_ | refine a5 ?_ _)); exact bB.out)) : bD ≠ bC)); have n9_ := bu ((by rw [hg]; exact Nat.ne_of_lt (blk_lt (g := bA) (o := .cells #[.string bK, .string bR, .bool bS, .slice bT bJ.length bU] 53 (0, 0)) (by (with_reducible repeat (first | refine a4 ?_ _ | refine bh ?_ | refine a5 ?_ _)); exact bz.out)) : bA ≠ bD)); have n10_ := bu ((by rw [hg]; exact Nat.ne_of_gt (blk_lt (g := bA) (o := .cells #[.string bK, .string bR, .bool bS, .slice bT bJ.length bU] 53 (0, 0)) (by (with_reducible repeat (first | refine a4 ?_ _ | refine bh ?_ | refine a5 ?_ _)); exact bz.out)) : bD ≠ bA)); clear bE; clear bB; clear bz; clear HB; have bE := bX; have bB := bY; have bz := bZ; have HB := ca; have bF := cb; have GW124 := n5_; have bW := n6_; have ce := n7_; have cf := n8_; have cg := n9_; have ch := n10_; clear bX bY bZ ca cb n5_ n6_ n7_ n8_ n9_ n10_; clear hb hbox hg; have hnb26 := cd.out; have hnc26 := cc.out; have hnb27 := cg.out; have hnc27 := ch.out; have hcz28_0 : w25.cell? ⟨bA, 0, none⟩ = some (.string bK) := (bo bz.out 0).trans rfl; have hcz28_1 : w25.cell? ⟨bA, 1, none⟩ = some (.string bR) := (bo bz.out 1).trans rfl; have hcz28_2 : w25.cell? ⟨bA, 2, none⟩ = some (.bool bS) := (bo bz.out 2).trans rfl; have hcz28_3 : w25.cell? ⟨bA, 3, none⟩ = some (.slice bT bJ.length bU) := (bo bz.out 3).trans rfl; have hfz28_0 := bk bz.out 0; have hfz28_1 := bk bz.out 1; have hfz28_2 := bk bz.out 2; have hfz28_3 := bk bz.out 3) | ((with_reducible refine bv (f := 34) rfl ?_); refine goesL_ (some 11) rfl rfl Tryd.func34 (by kernel_rfl) rfl #[.string bK] rfl (by (try simp only [List.map_toArray, List.map_cons, List.map_nil]); first | done | rfl | (simp only [List.length_drop, List.length_take]; rfl)) ?_; (with_reducible refine (octets_Name.calls bK true _ A4.out).mono ?_); rintro e w29 ⟨rfl, hb⟩; refine ⟨_, rfl, ?_⟩; have bX := bu (Kd.V_below (by (with_reducible repeat (first | apply Kd.V_alloc | apply Kd.V_drewN | apply Kd.V_drew)); exact bE.out) hb); have bY := bu (bl (g := bC) (o := .cells #[.slice bN bH.length bO, .slice bP bI.length bQ, .int .i64 bL] 27 (0, 0)) (by (with_reducible repeat (first | refine a4 ?_ _ | refine bh ?_ | refine a5 ?_ _)); exact bB.out) hb); have bZ := bu (bl (g := bA) (o := .cells #[.string bK, .string bR, .bool bS, .slice bT bJ.length bU] 53 (0, 0)) (by (with_reducible repeat (first | refine a4 ?_ _ | refine bh ?_ | refine a5 ?_ _)); exact bz.out) hb); have ca := bu (bl (g := bD) (o := .cells #[.slice none 0 0, .slice none 0 0, .int .i64 0] 27 (0, 0)) (by (with_reducible repeat (first | refine a4 ?_ _ | refine bh ?_ | refine a5 ?_ _)); exact bF.out) hb); have cb := bu (below_step (by repeat (first | (with_reducible first | exact HB.out | apply bm | apply bj | apply bn | refine bi ?_ bG.out | refine bi ?_ bM.out | refine bi ?_ bW.out) | exact HB.out)) hb); clear bE; clear bB; clear bz; clear bF; clear HB; have bE := bX; have bB := bY; have bz := bZ; have bF := ca; have HB := cb; clear bX bY bZ ca cb; (try clear hb); (try clear hb2); (try clear hk); (try clear hi)) | ((with_reducible refine bv (f := 44) rfl ?_); refine goesL_ (some 15) rfl rfl Tryd.func44 (by kernel_rfl) rfl #[.slice A2 l2.length c2] rfl (by (try simp only [List.map_toArray, List.map_cons, List.map_nil]); first | done | rfl | (simp only [List.length_drop, List.length_take]; rfl)) ?_; (with_reducible refine (vars_ask.calls k _ _ l2 ci _ ?side1 ?side2 A6.out).mono ?_); (case side1 => repeat (first | exact (br HR2.out HB.out) | (with_reducible refine bp ?_ _) | (with_reducible refine bq ?_ _) | (with_reducible refine Kd.C_drew ?_))); (case side2 => exact HC2.out); rintro e w' ⟨rfl, ⟨nd, rfl⟩⟩; refine ⟨_, rfl, ?_⟩; (try (rw [drewN_self w29]; generalize hq_ : World.drewN w29 _ = w29; have bX : Aside0 (Kd.V Kd.string 9 w29 w.heap.size (fun k_ => (P1_3_ k_ ∨ w.heap.size ≤ k_) ∧ k_ ≠ bC ∧ k_ ≠ bA ∧ k_ ≠ bD) (.slice bT bJ.length bU) bJ) := ⟨by rw [← hq_]; exact (by (with_reducible repeat (first | apply Kd.V_alloc | apply Kd.V_drewN | apply Kd.V_drew)); exact Kd.V_mono bE.out (fun _ hk => ⟨hk.1.1.1, ⟨hk.1.1.2, ⟨hk.1.2, hk.2⟩⟩⟩))⟩; have bY : Aside0 (w29.heap[bC]? = some (.cells #[.slice bN bH.length bO, .slice bP bI.length bQ, .int .i64 bL] 27 (0, 0))) := ⟨by rw [← hq_]; exact (by (with_reducible repeat (first | refine a4 ?_ _ | refine bh ?_ | refine a5 ?_ _)); exact bB.out)⟩; have bZ : Aside0 (w29.heap[bA]? = some (.cells #[.string bK, .string bR, .bool bS, .slice bT bJ.length bU] 53 (0, 0))) := ⟨by rw [← hq_]; exact (by (with_reducible repeat (first | refine a4 ?_ _ | refine bh ?_ | refine a5 ?_ _)); exact bz.out)⟩; have ca : Aside0 (w29.heap[bD]? = some (.cells #[.slice none 0 0, .slice none 0 0, .int .i64 0] 27 (0, 0))) := ⟨by rw [← hq_]; exact (by (with_reducible repeat (first | refine a4 ?_ _ | refine bh ?_ | refine a5 ?_ _)); exact bF.out)⟩; have cb : Aside0 (Below w.heap.size w w29) := ⟨by rw [← hq_]; exact (by repeat (first | (with_reducible first | exact HB.out | apply bm | apply bj | apply bn | refine bi ?_ bG.out | refine bi ?_ bM.out | refine bi ?_ bW.out) | exact HB.out))⟩; clear bE bB bz bF HB hq_; have bE := bX; have bB := bY; have bz := bZ; have bF := ca; have HB := cb; clear bX bY bZ ca cb)); have hnb30 := cf.out; have hnc30 := ce.out; have hcz31_0 : w29.cell? ⟨bD, 0, none⟩ = some (.slice none 0 0) := (bo bF.out 0).trans rfl; have hcz31_1 : w29.cell? ⟨bD, 1, none⟩ = some (.slice none 0 0) := (bo bF.out 1).trans rfl; have hcz31_2 : w29.cell? ⟨bD, 2, none⟩ = some (.int .i64 0) := (bo bF.out 2).trans rfl; have hfz31_0 := bk bF.out 0; have hfz31_1 := bk bF.out 1; have hfz31_2 := bk bF.out 2))
   refine bodyPost_ret (results_ct rfl _ _ bD 27 #[.slice none 0 0, .slice none 0 0, .int .i64 0] (0, 0) _ rfl (by (with_reducible repeat (first | refine a4 ?_ _ | refine bh ?_ | refine a5 ?_ _)); refine blk_put (cs := #[.slice none 0 0, .slice none 0 0, .int .i64 0]) ?_ 2 _ rfl; (with_reducible repeat (first | refine a4 ?_ _ | refine bh ?_ | refine a5 ?_ _)); refine blk_put (cs := #[.slice none 0 0, .slice none 0 0, .int .i64 0]) ?_ 1 _ rfl; (with_reducible repeat (first | refine a4 ?_ _ | refine bh ?_ | refine a5 ?_ _)); refine blk_put (cs := #[.slice none 0 0, .slice none 0 0, .int .i64 0]) ?_ 0 _ rfl; (with_reducible repeat (first | refine a4 ?_ _ | refine bh ?_ | refine a5 ?_ _)); exact bF.out) Tryd.underlying27 rfl (by kernel_rfl)) rfl ?_
   exact ⟨_, _, by first | rfl | (simp [errW_none, errW_some] <;> rfl) | (simp [*, errW_none, errW_some] <;> rfl), by first | exact Kd.S_nil _ _ _ _ _ | exact Kd.N_nil _ _ _ _ _ | exact Kd.V_nil _ _ _ _ _ | exact Kd.Q_nil _ _ _ _ _ | exact Kd.R_nil _ _ _ _ _, by first | exact Kd.R_nil _ _ _ _ _ | exact Kd.N_nil _ _ _ _ _ | exact Kd.V_nil _ _ _ _ _ | exact Kd.Q_nil _ _ _ _ _ | exact Kd.S_nil _ _ _ _ _, by repeat (first | (with_reducible first | exact HB.out | apply bm | apply bj | apply bn | refine bi ?_ bG.out | refine bi ?_ bM.out | refine bi ?_ bW.out) | exact HB.out)⟩
 ·
  replace c5 := Bool.eq_false_iff.mpr c5
  subst c5
  have H1 : (some (([] : List (S53)), ([] : List ByteArray), 0, 31)) = some (r1, r2, r3, r4) := by rw [if_neg (show ¬ (false = true) by decide)] at H; exact H
  clear H
  have H := H1
  clear H1
  simp only [Option.some.injEq, Prod.mk.injEq] at H
  obtain ⟨rfl, rfl, rfl, rfl⟩ := H
  go_enter Tryd.func25, Tryd.ntmps25
  go_wp2_with (first | ((with_reducible refine gate_dst (N := 3) rfl ?_); refine box_event ?hg (N := 3) ?hd (cs := #[.slice bN bH.length bO, .slice bP bI.length bQ, .int .i64 bL]) (t := 27) ?hr ?_; (case hd => rfl); (case hg => rfl); (case hr => first | (go_simp; done) | (go_simp; rfl)); intro bC hg w32 hbox hb; have bX := bu (Kd.V_below (Kd.V_elderB (by (with_reducible repeat (first | apply Kd.V_alloc | apply Kd.V_drewN | apply Kd.V_drew)); exact bE.out) bC (Nat.le_of_eq hg.symm)) hb); have bY := bu (below_step (by repeat (first | (with_reducible first | exact HB.out | apply bm | apply bj | apply bn) | exact HB.out)) hb); have bZ := bu (hbox); have ca := bu ((by rw [hg]; exact (bs (by repeat (first | (with_reducible first | exact HB.out | apply bm | apply bj | apply bn) | exact HB.out))) : w.heap.size ≤ bC)); have cb := bu ((by rw [hg]; exact (bs (by repeat (first | (with_reducible first | exact HB.out | apply bm | apply bj | apply bn) | exact HB.out))) : w.heap.size ≤ bC)); clear bE; clear HB; have bE := bX; have HB := bY; have bB := bZ; have GW122 := ca; have bG := cb; clear bX bY bZ ca cb; clear hb hbox hg) | ((with_reducible refine gate_dst (N := 4) rfl ?_); refine box_event ?hg (N := 4) ?hd (cs := #[.string bK, .string bR, .bool bS, .slice bT bJ.length bU]) (t := 53) ?hr ?_; (case hd => rfl); (case hg => rfl); (case hr => first | (go_simp; done) | (go_simp; rfl)); intro bA hg w33 hbox hb; have bX := bu (Kd.V_below (Kd.V_elderB (by (with_reducible repeat (first | apply Kd.V_alloc | apply Kd.V_drewN | apply Kd.V_drew)); exact bE.out) bA (Nat.le_of_eq hg.symm)) hb); have bY := bu (bl (g := bC) (o := .cells #[.slice bN bH.length bO, .slice bP bI.length bQ, .int .i64 bL] 27 (0, 0)) (by (with_reducible repeat (first | refine a4 ?_ _ | refine bh ?_ | refine a5 ?_ _)); exact bB.out) hb); have bZ := bu (below_step (by repeat (first | (with_reducible first | exact HB.out | apply bm | apply bj | apply bn | refine bi ?_ bG.out) | exact HB.out)) hb); have ca := bu (hbox); have cb := bu ((by rw [hg]; exact (bs (by repeat (first | (with_reducible first | exact HB.out | apply bm | apply bj | apply bn | refine bi ?_ bG.out) | exact HB.out))) : w.heap.size ≤ bA)); have n5_ := bu ((by rw [hg]; exact (bs (by repeat (first | (with_reducible first | exact HB.out | apply bm | apply bj | apply bn | refine bi ?_ bG.out) | exact HB.out))) : w.heap.size ≤ bA)); have n6_ := bu ((by rw [hg]; exact Nat.ne_of_lt (blk_lt (g := bC) (o := .cells #[.slice bN bH.length bO, .slice bP bI.length bQ, .int .i64 bL] 27 (0, 0)) (by (with_reducible repeat (first | refine a4 ?_ _ | refine bh ?_ | refine a5 ?_ _)); exact bB.out)) : bC ≠ bA)); have n7_ := bu ((by rw [hg]; exact Nat.ne_of_gt (blk_lt (g := bC) (o := .cells #[.slice bN bH.length bO, .slice bP bI.length bQ, .int .i64 bL] 27 (0, 0)) (by (with_reducible repeat (first | refine a4 ?_ _ | refine bh ?_ | refine a5 ?_ _)); exact bB.out)) : bA ≠ bC)); clear bE; clear bB; clear HB; have bE := bX; have bB := bY; have HB := bZ; have bz := ca; have GW123 := cb; have bM := n5_; have cc := n6_; have cd := n7_; clear bX bY bZ ca cb n5_ n6_ n7_; clear hb hbox hg) | ((with_reducible refine gate_dst (N := 6) rfl ?_); refine box_event ?hg (N := 6) ?hd (cs := #[.slice none 0 0, .slice none 0 0, .int .i64 0]) (t := 27) ?hr ?_; (case hd => rfl); (case hg => rfl); (case hr => first | (go_simp; done) | (go_simp; rfl)); intro bD hg w34 hbox hb; have bX := bu (Kd.V_below (Kd.V_elderB (by (with_reducible repeat (first | apply Kd.V_alloc | apply Kd.V_drewN | apply Kd.V_drew)); exact bE.out) bD (Nat.le_of_eq hg.symm)) hb); have bY := bu (bl (g := bC) (o := .cells #[.slice bN bH.length bO, .slice bP bI.length bQ, .int .i64 bL] 27 (0, 0)) (by (with_reducible repeat (first | refine a4 ?_ _ | refine bh ?_ | refine a5 ?_ _)); exact bB.out) hb); have bZ := bu (bl (g := bA) (o := .cells #[.string bK, .string bR, .bool bS, .slice bT bJ.length bU] 53 (0, 0)) (by (with_reducible repeat (first | refine a4 ?_ _ | refine bh ?_ | refine a5 ?_ _)); exact bz.out) hb); have ca := bu (below_step (by repeat (first | (with_reducible first | exact HB.out | apply bm | apply bj | apply bn | refine bi ?_ bG.out | refine bi ?_ bM.out) | exact HB.out)) hb); have cb := bu (hbox); have n5_ := bu ((by rw [hg]; exact (bs (by repeat (first | (with_reducible first | exact HB.out | apply bm | apply bj | apply bn | refine bi ?_ bG.out | refine bi ?_ bM.out) | exact HB.out))) : w.heap.size ≤ bD)); have n6_ := bu ((by rw [hg]; exact (bs (by repeat (first | (with_reducible first | exact HB.out | apply bm | apply bj | apply bn | refine bi ?_ bG.out | refine bi ?_ bM.out) | exact HB.out))) : w.heap.size ≤ bD)); have n7_ := bu ((by rw [hg]; exact Nat.ne_of_lt (blk_lt (g := bC) (o := .cells #[.slice bN bH.length bO, .slice bP bI.length bQ, .int .i64 bL] 27 (0, 0)) (by (with_reducible repeat (first | refine a4 ?_ _ | refine bh ?_ | refine a5 ?_ _)); exact bB.out)) : bC ≠ bD)); have n8_ := bu ((by rw [hg]; exact Nat.ne_of_gt (blk_lt (g := bC) (o := .cells #[.slice bN bH.length bO, .slice bP bI.length bQ, .int .i64 bL] 27 (0, 0)) (by (with_reducible repeat (first | refine a4 ?_ _ | refine bh ?_ | refine a5 ?_ _)); exact bB.out)) : bD ≠ bC)); have n9_ := bu ((by rw [hg]; exact Nat.ne_of_lt (blk_lt (g := bA) (o := .cells #[.string bK, .string bR, .bool bS, .slice bT bJ.length bU] 53 (0, 0)) (by (with_reducible repeat (first | refine a4 ?_ _ | refine bh ?_ | refine a5 ?_ _)); exact bz.out)) : bA ≠ bD)); have n10_ := bu ((by rw [hg]; exact Nat.ne_of_gt (blk_lt (g := bA) (o := .cells #[.string bK, .string bR, .bool bS, .slice bT bJ.length bU] 53 (0, 0)) (by (with_reducible repeat (first | refine a4 ?_ _ | refine bh ?_ | refine a5 ?_ _)); exact bz.out)) : bD ≠ bA)); clear bE; clear bB; clear bz; clear HB; have bE := bX; have bB := bY; have bz := bZ; have HB := ca; have bF := cb; have GW124 := n5_; have bW := n6_; have ce := n7_; have cf := n8_; have cg := n9_; have ch := n10_; clear bX bY bZ ca cb n5_ n6_ n7_ n8_ n9_ n10_; clear hb hbox hg; have hnb35 := cd.out; have hnc35 := cc.out; have hnb36 := cg.out; have hnc36 := ch.out; have hcz37_0 : w34.cell? ⟨bA, 0, none⟩ = some (.string bK) := (bo bz.out 0).trans rfl; have hcz37_1 : w34.cell? ⟨bA, 1, none⟩ = some (.string bR) := (bo bz.out 1).trans rfl; have hcz37_2 : w34.cell? ⟨bA, 2, none⟩ = some (.bool bS) := (bo bz.out 2).trans rfl; have hcz37_3 : w34.cell? ⟨bA, 3, none⟩ = some (.slice bT bJ.length bU) := (bo bz.out 3).trans rfl; have hfz37_0 := bk bz.out 0; have hfz37_1 := bk bz.out 1; have hfz37_2 := bk bz.out 2; have hfz37_3 := bk bz.out 3) | ((with_reducible refine bv (f := 34) rfl ?_); refine goesL_ (some 11) rfl rfl Tryd.func34 (by kernel_rfl) rfl #[.string bK] rfl (by (try simp only [List.map_toArray, List.map_cons, List.map_nil]); first | done | rfl | (simp only [List.length_drop, List.length_take]; rfl)) ?_; (with_reducible refine (octets_Name.calls bK false _ A4.out).mono ?_); rintro e w38 ⟨rfl, hb⟩; refine ⟨_, rfl, ?_⟩; have bX := bu (Kd.V_below (by (with_reducible repeat (first | apply Kd.V_alloc | apply Kd.V_drewN | apply Kd.V_drew)); exact bE.out) hb); have bY := bu (bl (g := bC) (o := .cells #[.slice bN bH.length bO, .slice bP bI.length bQ, .int .i64 bL] 27 (0, 0)) (by (with_reducible repeat (first | refine a4 ?_ _ | refine bh ?_ | refine a5 ?_ _)); exact bB.out) hb); have bZ := bu (bl (g := bA) (o := .cells #[.string bK, .string bR, .bool bS, .slice bT bJ.length bU] 53 (0, 0)) (by (with_reducible repeat (first | refine a4 ?_ _ | refine bh ?_ | refine a5 ?_ _)); exact bz.out) hb); have ca := bu (bl (g := bD) (o := .cells #[.slice none 0 0, .slice none 0 0, .int .i64 0] 27 (0, 0)) (by (with_reducible repeat (first | refine a4 ?_ _ | refine bh ?_ | refine a5 ?_ _)); exact bF.out) hb); have cb := bu (below_step (by repeat (first | (with_reducible first | exact HB.out | apply bm | apply bj | apply bn | refine bi ?_ bG.out | refine bi ?_ bM.out | refine bi ?_ bW.out) | exact HB.out)) hb); clear bE; clear bB; clear bz; clear bF; clear HB; have bE := bX; have bB := bY; have bz := bZ; have bF := ca; have HB := cb; clear bX bY bZ ca cb; (try clear hb); (try clear hb2); (try clear hk); (try clear hi); have hnb39 := cf.out; have hnc39 := ce.out; have hcz40_0 : w38.cell? ⟨bD, 0, none⟩ = some (.slice none 0 0) := (bo bF.out 0).trans rfl; have hcz40_1 : w38.cell? ⟨bD, 1, none⟩ = some (.slice none 0 0) := (bo bF.out 1).trans rfl; have hcz40_2 : w38.cell? ⟨bD, 2, none⟩ = some (.int .i64 0) := (bo bF.out 2).trans rfl; have hfz40_0 := bk bF.out 0; have hfz40_1 := bk bF.out 1; have hfz40_2 := bk bF.out 2))
  refine bodyPost_ret (results_ct rfl _ _ bD 27 #[.slice none 0 0, .slice none 0 0, .int .i64 0] (0, 0) _ rfl (by (with_reducible repeat (first | refine a4 ?_ _ | refine bh ?_ | refine a5 ?_ _)); refine blk_put (cs := #[.slice none 0 0, .slice none 0 0, .int .i64 0]) ?_ 2 _ rfl; (with_reducible repeat (first | refine a4 ?_ _ | refine bh ?_ | refine a5 ?_ _)); refine blk_put (cs := #[.slice none 0 0, .slice none 0 0, .int .i64 0]) ?_ 1 _ rfl; (with_reducible repeat (first | refine a4 ?_ _ | refine bh ?_ | refine a5 ?_ _)); refine blk_put (cs := #[.slice none 0 0, .slice none 0 0, .int .i64 0]) ?_ 0 _ rfl; (with_reducible repeat (first | refine a4 ?_ _ | refine bh ?_ | refine a5 ?_ _)); exact bF.out) Tryd.underlying27 rfl (by kernel_rfl)) rfl ?_
  exact ⟨_, _, by first | rfl | (simp [errW_none, errW_some] <;> rfl) | (simp [*, errW_none, errW_some] <;> rfl), by first | exact Kd.S_nil _ _ _ _ _ | exact Kd.N_nil _ _ _ _ _ | exact Kd.V_nil _ _ _ _ _ | exact Kd.Q_nil _ _ _ _ _ | exact Kd.R_nil _ _ _ _ _, by first | exact Kd.R_nil _ _ _ _ _ | exact Kd.N_nil _ _ _ _ _ | exact Kd.V_nil _ _ _ _ _ | exact Kd.Q_nil _ _ _ _ _ | exact Kd.S_nil _ _ _ _ _, by repeat (first | (with_reducible first | exact HB.out | apply bm | apply bj | apply bn | refine bi ?_ bG.out | refine bi ?_ bM.out | refine bi ?_ bW.out) | exact HB.out)⟩

/-! ### vars_Put: function 11 -/
def vars_Put.f (k : Nat) (l0_0 : List (S53)) (l0_1 : List ByteArray) (a0_2 : Int) (a1 : ByteArray) (a2 : ByteArray) : Option ((List (S53)) × List ByteArray × Int × Int) := (vars_Store_put.f k l0_0 l0_1 a0_2 a1 a2 false ([] : List ByteArray) (([a2] : List ByteArray))).bind fun bt140 => (some (bt140.1, bt140.2.1, bt140.2.2.1, bt140.2.2.2))
set_option maxHeartbeats 8000000 in
set_option maxRecDepth 100000 in
theorem vars_Put.calls (k : Nat) (A0_0 : Option Addr) (c0_0 : Nat) (bE : List (S53)) (A0_1 : Option Addr) (c0_1 : Nat) (bF : List ByteArray) (bG : Int) (a1 : ByteArray) (a2 : ByteArray) (r1 : List (S53)) (r2 : List ByteArray) (r3 : Int) (r4 : Int) (w : World) (hr0_0 : Kd.C k53 w A0_0 bE.length bE) (hc0_0 : bE.length ≤ c0_0) (hr0_1 : Kd.C Kd.string w A0_1 bF.length bF) (hc0_1 : bF.length ≤ c0_1) (h : vars_Put.f k bE bF bG a1 a2 = some (r1, r2, r3, r4)) :
  Calls Tryd.prog 11 #[.agg #[.slice A0_0 bE.length c0_0, .slice A0_1 bF.length c0_1, .int .i64 bG], .string a1, .string a2] w fun e w' => ∃ v0_ v1_ : Value, e = .returned (.tuple #[.agg #[v0_, v1_, .int .i64 r3], .int .i64 r4]) ∧ Kd.N k53 53 w' w.heap.size (fun k_ => (w.heap.size ≤ k_) ∧ some k_ ≠ (v1_ : Value).ownBlock) v0_ r1 ∧ Kd.R Kd.string 9 w' w.heap.size (fun k_ => (w.heap.size ≤ k_)) v1_ r2 ∧ Below w.heap.size w w' := by
 have hu27 := Tryd.underlying27
 have hu53 := Tryd.underlying53
 have HR0_0 := bu hr0_0
 have HC0_0 := bu hc0_0
 clear hr0_0 hc0_0
 have HR0_1 := bu hr0_1
 have HC0_1 := bu hc0_1
 clear hr0_1 hc0_1
 have HB := bu (bw w.heap.size w)
 have H : ((vars_Store_put.f k bE bF bG a1 a2 false ([] : List ByteArray) (([a2] : List ByteArray))).bind fun bH => (some (bH.1, bH.2.1, bH.2.2.1, bH.2.2.2))) = some (r1, r2, r3, r4) := h
 clear h
 obtain ⟨y137, hy137⟩ : ∃ y_ : List ByteArray, y_ = (([a2] : List ByteArray)) := ⟨_, rfl⟩
 replace H : ((vars_Store_put.f k bE bF bG a1 a2 false ([] : List ByteArray) y137).bind fun bH => (some (bH.1, bH.2.1, bH.2.2.1, bH.2.2.2))) = some (r1, r2, r3, r4) := by first | (rw [hy137]; with_reducible exact H) | (have H2_ := (Option.bind_some _ _).symm.trans H; rw [hy137]; with_reducible exact H2_) | (have H2_ := (Option.bind_some _ _).symm.trans H; with_reducible exact H2_) | with_reducible exact H | (rw [hy137]; exact H) | exact H
 have Ny137 := bu hy137
 clear hy137
 replace H := Option.bind_eq_some_iff.mp H
 obtain ⟨⟨t140, t143, t146, t147⟩, A40, H⟩ := H
 replace H : (some (t140, t143, t146, t147)) = some (r1, r2, r3, r4) := H
 have A4 := bu A40
 clear A40
 simp only [Option.some.injEq, Prod.mk.injEq] at H
 obtain ⟨rfl, rfl, rfl, rfl⟩ := H
 go_enter Tryd.func11, Tryd.ntmps11
 go_wp2_with (first | ((with_reducible refine gate_dst (N := 3) rfl ?_); refine box_event ?hg (N := 3) ?hd (cs := #[.slice A0_0 bE.length c0_0, .slice A0_1 bF.length c0_1, .int .i64 bG]) (t := 27) ?hr ?_; (case hd => rfl); (case hg => rfl); (case hr => first | (go_simp; done) | (go_simp; rfl)); intro bC hg w5 hbox hb; have n0_ := bu (below_step (by repeat (first | (with_reducible first | exact HB.out | apply bm | apply bj | apply bn) | exact HB.out)) hb); have n1_ := bu (hbox); have n2_ := bu ((by rw [hg]; exact (bs (by repeat (first | (with_reducible first | exact HB.out | apply bm | apply bj | apply bn) | exact HB.out))) : w.heap.size ≤ bC)); have n3_ := bu ((by rw [hg]; exact (bs (by repeat (first | (with_reducible first | exact HB.out | apply bm | apply bj | apply bn) | exact HB.out))) : w.heap.size ≤ bC)); clear HB; have HB := n0_; have bA := n1_; have GW135 := n2_; have bD := n3_; clear n0_ n1_ n2_ n3_; clear hb hbox hg) | ((with_reducible refine gate_dst (N := 6) rfl ?_); refine box_event ?hg (N := 6) ?hd (cs := #[.slice none 0 0, .slice none 0 0, .int .i64 0]) (t := 27) ?hr ?_; (case hd => rfl); (case hg => rfl); (case hr => first | (go_simp; done) | (go_simp; rfl)); intro bz hg w6 hbox hb; have n0_ := bu (bl (g := bC) (o := .cells #[.slice A0_0 bE.length c0_0, .slice A0_1 bF.length c0_1, .int .i64 bG] 27 (0, 0)) (by (with_reducible repeat (first | refine a4 ?_ _ | refine bh ?_ | refine a5 ?_ _)); exact bA.out) hb); have n1_ := bu (below_step (by repeat (first | (with_reducible first | exact HB.out | apply bm | apply bj | apply bn | refine bi ?_ bD.out) | exact HB.out)) hb); have n2_ := bu (hbox); have n3_ := bu ((by rw [hg]; exact (bs (by repeat (first | (with_reducible first | exact HB.out | apply bm | apply bj | apply bn | refine bi ?_ bD.out) | exact HB.out))) : w.heap.size ≤ bz)); have n4_ := bu ((by rw [hg]; exact (bs (by repeat (first | (with_reducible first | exact HB.out | apply bm | apply bj | apply bn | refine bi ?_ bD.out) | exact HB.out))) : w.heap.size ≤ bz)); have n5_ := bu ((by rw [hg]; exact Nat.ne_of_lt (blk_lt (g := bC) (o := .cells #[.slice A0_0 bE.length c0_0, .slice A0_1 bF.length c0_1, .int .i64 bG] 27 (0, 0)) (by (with_reducible repeat (first | refine a4 ?_ _ | refine bh ?_ | refine a5 ?_ _)); exact bA.out)) : bC ≠ bz)); have n6_ := bu ((by rw [hg]; exact Nat.ne_of_gt (blk_lt (g := bC) (o := .cells #[.slice A0_0 bE.length c0_0, .slice A0_1 bF.length c0_1, .int .i64 bG] 27 (0, 0)) (by (with_reducible repeat (first | refine a4 ?_ _ | refine bh ?_ | refine a5 ?_ _)); exact bA.out)) : bz ≠ bC)); clear bA; clear HB; have bA := n0_; have HB := n1_; have bB := n2_; have GW136 := n3_; have bI := n4_; have NB135_136 := n5_; have NB136_135 := n6_; clear n0_ n1_ n2_ n3_ n4_ n5_ n6_; clear hb hbox hg; have hnb7 := NB135_136.out; have hnc7 := NB136_135.out; have hcz8_0 : w6.cell? ⟨bC, 0, none⟩ = some (.slice A0_0 bE.length c0_0) := (bo bA.out 0).trans rfl; have hcz8_1 : w6.cell? ⟨bC, 1, none⟩ = some (.slice A0_1 bF.length c0_1) := (bo bA.out 1).trans rfl; have hcz8_2 : w6.cell? ⟨bC, 2, none⟩ = some (.int .i64 bG) := (bo bA.out 2).trans rfl; have hfz8_0 := bk bA.out 0; have hfz8_1 := bk bA.out 1; have hfz8_2 := bk bA.out 2) | ((with_reducible refine gate_dst (N := 13) rfl ?_); refine Kd.R_lit Kd.string _ 9 ?hg (N := 13) ?hd (xs := ([a2] : List ByteArray)) (inner := [.string a2]) (ok := fun _ => True) (okp := fun _ => True) ?hr ?hp (fun _ hk => hk) trivial (bw _ _) (Nat.le_refl _) (by simp) ?_; (case hd => rfl); (case hg => rfl); (case hr => first | (go_simp; done) | (go_simp; rfl)); (case hp => exact (Reps.one (show Kd.M Kd.string _ _ _ a2 [.string a2] from rfl) (Reps.none _ _))); intro v138 w9 ho10 hb hg_ hnew_; clear hg_ hnew_; (first | rw [← Ny137.out] at ho10 | (simp only [Int.reduceToNat] at ho10; rw [← Ny137.out] at ho10)); have n0_ := bu (Kd.R_lower (Kd.R_newM (M := fun k_ => (w.heap.size ≤ k_)) ho10 (bs (by repeat (first | (with_reducible first | exact HB.out | apply bm | apply bj | apply bn | refine bi ?_ bD.out | refine bi ?_ bI.out) | exact HB.out))) (fun k_ h_ => h_)) (bs (by repeat (first | (with_reducible first | exact HB.out | apply bm | apply bj | apply bn | refine bi ?_ bD.out | refine bi ?_ bI.out) | exact HB.out)))); have n1_ := bu (bl (g := bC) (o := .cells #[.slice A0_0 bE.length c0_0, .slice A0_1 bF.length c0_1, .int .i64 bG] 27 (0, 0)) (by (with_reducible repeat (first | refine a4 ?_ _ | refine bh ?_ | refine a5 ?_ _)); exact bA.out) hb); have n2_ := bu (bl (g := bz) (o := .cells #[.slice none 0 0, .slice none 0 0, .int .i64 0] 27 (0, 0)) (by (with_reducible repeat (first | refine a4 ?_ _ | refine bh ?_ | refine a5 ?_ _)); exact bB.out) hb); have n3_ := bu (below_step (by repeat (first | (with_reducible first | exact HB.out | apply bm | apply bj | apply bn | refine bi ?_ bD.out | refine bi ?_ bI.out) | exact HB.out)) hb); clear bA; clear bB; clear HB; have bJ := n0_; have bA := n1_; have bB := n2_; have HB := n3_; clear n0_ n1_ n2_ n3_; clear hb ho10; obtain ⟨Ao11, co11, eo11⟩ := Kd.R_slice bJ.out; subst eo11) | ((with_reducible refine bv (f := 25) rfl ?_); refine goesL_ (some 14) rfl rfl Tryd.func25 (by kernel_rfl) rfl #[.agg #[.slice A0_0 bE.length c0_0, .slice A0_1 bF.length c0_1, .int .i64 bG], .agg #[.string a1, .string a2, .bool false, .slice none 0 0], .slice Ao11 y137.length co11] rfl (by (try simp only [List.map_toArray, List.map_cons, List.map_nil]); first | done | rfl | (simp only [List.length_drop, List.length_take]; rfl)) ?_; (refine (vars_Store_put.calls k _ _ bE _ _ bF bG a1 a2 false (fun k_ => False) _ _ ([] : List ByteArray) _ _ y137 t140 t143 t146 t147 _ ?side1 ?side2 ?side3 ?side4 ?side5 ?side6 ?side7 A4.out).mono ?_); (case side1 => repeat (first | exact (br HR0_0.out HB.out) | (with_reducible refine bp ?_ _) | (with_reducible refine bq ?_ _) | (with_reducible refine Kd.C_drew ?_))); (case side2 => exact HC0_0.out); (case side3 => repeat (first | exact (br HR0_1.out HB.out) | (with_reducible refine bp ?_ _) | (with_reducible refine bq ?_ _) | (with_reducible refine Kd.C_drew ?_))); (case side4 => exact HC0_1.out); (case side5 => exact Kd.V_nil _ _ _ _ _); (case side6 => repeat (first | exact (Kd.R_reads' bJ.out).2.2 | (with_reducible refine bp ?_ _) | (with_reducible refine bq ?_ _) | (with_reducible refine Kd.C_drew ?_))); (case side7 => exact (Kd.R_reads' bJ.out).2.1); rintro e w12 ⟨v141, v144, rfl, ho0, ho1, hb⟩; refine ⟨_, rfl, ?_⟩; have n0_ := bu (Kd.R_elder' (by (with_reducible repeat (first | apply Kd.R_alloc | apply Kd.R_drewN | apply Kd.R_drew)); exact bJ.out) (Kd.R_base ho1) hb); have n1_ := bu (Kd.N_lower (Kd.N_mono (ok' := fun k_ => (w.heap.size ≤ k_) ∧ some k_ ≠ (v144 : Value).ownBlock ∧ some k_ ≠ (.slice Ao11 y137.length co11 : Value).ownBlock ∧ k_ ≠ bC ∧ k_ ≠ bz) ho0 (fun k_ hk_ => ⟨Or.elim hk_.1 (fun hs_ => (hs_).elim) (fun hn_ => (Nat.le_trans (bs (by repeat (first | (with_reducible first | exact HB.out | apply bm | apply bj | apply bn | refine bi ?_ bD.out | refine bi ?_ bI.out) | exact HB.out))) hn_)), hk_.2, Or.elim hk_.1 (fun hs_ => (hs_).elim) (fun hn_ => (Kd.fresh' (Kd.R_lt (by (with_reducible repeat (first | apply Kd.R_alloc | apply Kd.R_drewN | apply Kd.R_drew)); exact bJ.out)) k_ hn_)), Or.elim hk_.1 (fun hs_ => (hs_).elim) (fun hn_ => (Kd.freshB (g := bC) (o := .cells #[.slice A0_0 bE.length c0_0, .slice A0_1 bF.length c0_1, .int .i64 bG] 27 (0, 0)) (by (with_reducible repeat (first | refine a4 ?_ _ | refine bh ?_ | refine a5 ?_ _)); exact bA.out) k_ hn_)), Or.elim hk_.1 (fun hs_ => (hs_).elim) (fun hn_ => (Kd.freshB (g := bz) (o := .cells #[.slice none 0 0, .slice none 0 0, .int .i64 0] 27 (0, 0)) (by (with_reducible repeat (first | refine a4 ?_ _ | refine bh ?_ | refine a5 ?_ _)); exact bB.out) k_ hn_))⟩)) (bs (by repeat (first | (with_reducible first | exact HB.out | apply bm | apply bj | apply bn | refine bi ?_ bD.out | refine bi ?_ bI.out) | exact HB.out)))); have n2_ := bu (Kd.R_lower (Kd.R_new' (Kd.R_newM (M := fun k_ => (w.heap.size ≤ k_)) (Kd.R_mono (ok' := fun k_ => True) ho1 (fun _ hk_ => trivial)) (bs (by repeat (first | (with_reducible first | exact HB.out | apply bm | apply bj | apply bn | refine bi ?_ bD.out | refine bi ?_ bI.out) | exact HB.out))) (fun k_ h_ => h_)) (Kd.R_lt (by (with_reducible repeat (first | apply Kd.R_alloc | apply Kd.R_drewN | apply Kd.R_drew)); exact bJ.out))) (bs (by repeat (first | (with_reducible first | exact HB.out | apply bm | apply bj | apply bn | refine bi ?_ bD.out | refine bi ?_ bI.out) | exact HB.out)))); have n3_ := bu (bl (g := bC) (o := .cells #[.slice A0_0 bE.length c0_0, .slice A0_1 bF.length c0_1, .int .i64 bG] 27 (0, 0)) (by (with_reducible repeat (first | refine a4 ?_ _ | refine bh ?_ | refine a5 ?_ _)); exact bA.out) hb); have n4_ := bu (bl (g := bz) (o := .cells #[.slice none 0 0, .slice none 0 0, .int .i64 0] 27 (0, 0)) (by (with_reducible repeat (first | refine a4 ?_ _ | refine bh ?_ | refine a5 ?_ _)); exact bB.out) hb); have n5_ := bu (below_step (by repeat (first | (with_reducible first | exact HB.out | apply bm | apply bj | apply bn | refine bi ?_ bD.out | refine bi ?_ bI.out) | exact HB.out)) hb); clear bJ; clear bA; clear bB; clear HB; have bJ := n0_; have HO142 := n1_; have HO145 := n2_; have bA := n3_; have bB := n4_; have HB := n5_; clear n0_ n1_ n2_ n3_ n4_ n5_; (try clear hb); (try clear hb2); (try clear hk); (try clear hi); (try clear ho0); (try clear ho1); obtain ⟨Ao13, co13, eo13⟩ := Kd.N_slice HO142.out; subst eo13; have hcz14_0 : w12.cell? ⟨bz, 0, none⟩ = some (.slice none 0 0) := (bo bB.out 0).trans rfl; have hcz14_1 : w12.cell? ⟨bz, 1, none⟩ = some (.slice none 0 0) := (bo bB.out 1).trans rfl; have hcz14_2 : w12.cell? ⟨bz, 2, none⟩ = some (.int .i64 0) := (bo bB.out 2).trans rfl; have hfz14_0 := bk bB.out 0; have hfz14_1 := bk bB.out 1; have hfz14_2 := bk bB.out 2; obtain ⟨Ao15, co15, eo15⟩ := Kd.R_slice HO145.out; subst eo15))
 refine bodyPost_ret (results_ct rfl _ _ bz 27 #[.slice Ao13 t140.length co13, .slice Ao15 t143.length co15, .int .i64 t146] (0, 0) _ rfl (by (with_reducible repeat (first | refine a4 ?_ _ | refine bh ?_ | refine a5 ?_ _)); refine blk_put (cs := #[.slice Ao13 t140.length co13, .slice Ao15 t143.length co15, .int .i64 0]) ?_ 2 _ rfl; (with_reducible repeat (first | refine a4 ?_ _ | refine bh ?_ | refine a5 ?_ _)); refine blk_put (cs := #[.slice Ao13 t140.length co13, .slice none 0 0, .int .i64 0]) ?_ 1 _ rfl; (with_reducible repeat (first | refine a4 ?_ _ | refine bh ?_ | refine a5 ?_ _)); refine blk_put (cs := #[.slice none 0 0, .slice none 0 0, .int .i64 0]) ?_ 0 _ rfl; (with_reducible repeat (first | refine a4 ?_ _ | refine bh ?_ | refine a5 ?_ _)); exact bB.out) Tryd.underlying27 rfl (by kernel_rfl)) rfl ?_
 exact ⟨_, _, by first | rfl | (simp [errW_none, errW_some] <;> rfl) | (simp [*, errW_none, errW_some] <;> rfl), by (with_reducible repeat (first | apply Kd.N_alloc | apply Kd.N_drewN | apply Kd.N_drew)); exact Kd.N_mono (Kd.N_far (p := ⟨bz, 2, none⟩) (Kd.N_far (p := ⟨bz, 1, none⟩) (Kd.N_far (p := ⟨bz, 0, none⟩) (Kd.N_mono HO142.out (fun k_ hk => (⟨hk, hk.2.2.2.2⟩ : _ ∧ k_ ≠ bz))) (fun _ hk => hk.2) (.slice Ao13 t140.length co13)) (fun _ hk => hk.2) (.slice Ao15 t143.length co15)) (fun _ hk => hk.2) (.int .i64 t146)) (fun _ hk => ⟨hk.1.1, hk.1.2.1⟩), by (with_reducible repeat (first | apply Kd.R_alloc | apply Kd.R_drewN | apply Kd.R_drew)); exact Kd.R_mono (Kd.R_far (p := ⟨bz, 2, none⟩) (Kd.R_far (p := ⟨bz, 1, none⟩) (Kd.R_far (p := ⟨bz, 0, none⟩) (Kd.R_types HO145.out bB.out (by decide)) (fun _ hk => hk.2) (.slice Ao13 t140.length co13)) (fun _ hk => hk.2) (.slice Ao15 t143.length co15)) (fun _ hk => hk.2) (.int .i64 t146)) (fun _ hk => hk.1.1.1), by repeat (first | (with_reducible first | exact HB.out | apply bm | apply bj | apply bn | refine bi ?_ bD.out | refine bi ?_ bI.out) | exact HB.out)⟩

/-! ### cowrielaw20_num: function 12 -/
def cowrielaw20_num.f (a0 : Int) : Option (Int) := some a0
set_option maxHeartbeats 8000000 in
set_option maxRecDepth 100000 in
theorem cowrielaw20_num.calls (a0 : Int) (r : Int) (w : World) (h : cowrielaw20_num.f a0 = some r) :
  Calls Tryd.prog 12 #[.int .i64 a0] w fun e w' => e = .returned (.int .i64 r) ∧ Drawn0 w w' := by
 have H : (some a0) = some r := h
 clear h
 obtain rfl := Option.some.inj H
 go_enter Tryd.func12, Tryd.ntmps12
 go_wp2
 go_ret
 exact ⟨by first | rfl | (simp; done) | (simp [*]; done), by repeat (first | exact Drawn0.refl _ | apply Drawn0.step)⟩

end Go.Proofs.YtpljochiegallaaDoor.XVB
