-- WRITTEN BY xprint.py, a program of this session (over the kit's print)
import Derived.Test.YtpljochiegallaaDoorBXVBx0
import Derived.Test.YtpljochiegallaaDoorBXVBx1
import Derived.Test.YtpljochiegallaaDoorBXVBx5
import Derived.Test.YtpljochiegallaaDoorBXVBx7
import Derived.Test.YtpljochiegallaaDoorBXVBx8
import Derived.Test.YtpljochiegallaaDoorBXVBx10
namespace Go.Proofs.YtpljochiegallaaDoor.XVB
open Go.RowKit Go.Proofs.YtpljochiegallaaDoorW.PrintWords Go.Proofs.YtpljochiegallaaDoorW.PrintLast Go.Proofs.YtpljochiegallaaDoorW.PrintMore
attribute [local go_sem] max2_int min2_int max_two min_two max_three min_three max_four min_four   -- for this text's walks alone
set_option linter.unusedVariables false
set_option linter.unusedSimpArgs false

/-! ### cowrieref20_Text: function 16 -/
mutual
def cowrieref20_Text.j0 : Nat → ByteArray → Int → Bool → List (S53) → List ByteArray → Int → Option (ByteArray × Bool)
  | 0, _, _, _, _, _, _ => none
  | k + 1, x1, x6, x23, x249000, x249001, x249002 => if x23 = true then ((cowrieref20_joined.f k x249001).bind fun t252 => (some (t252, true))) else ((cowrieref01_Digits.f k x1).bind fun t253 => (if t253 = true then ((cowrieref20_argument.f k x249000 x249001 x249002 x1).bind fun bt254 => (some (bt254.1, bt254.2))) else (if x6 < 0 then (cowrieref20_Text.j1 k x6 true x249000 x249001 x249002) else ((cowrieref01_Name.f k x1).bind fun t256 => (cowrieref20_Text.j1 k x6 (!t256) x249000 x249001 x249002)))))
def cowrieref20_Text.j1 : Nat → Int → Bool → List (S53) → List ByteArray → Int → Option (ByteArray × Bool)
  | 0, _, _, _, _, _ => none
  | k + 1, x6, x41, x249000, x249001, x249002 => if x41 = true then (some ((⟨#[]⟩ : ByteArray), false)) else (if 0 ≤ x6 then (if x6 < (x249000.length : Int) then (if (rd_T53 x249000 x6).f2 = true then (cowrieref20_Text.j2 k x6 (decide ((((rd_T53 x249000 x6).f3).length : Int) > 0)) x249000 x249001 x249002) else (cowrieref20_Text.j2 k x6 false x249000 x249001 x249002)) else (none)) else (none))
def cowrieref20_Text.j2 : Nat → Int → Bool → List (S53) → List ByteArray → Int → Option (ByteArray × Bool)
  | 0, _, _, _, _, _ => none
  | k + 1, x6, x49, x249000, x249001, x249002 => if x49 = true then (if 0 ≤ x6 then (if x6 < (x249000.length : Int) then (if 0 < (((rd_T53 x249000 x6).f3).length : Int) then (some (rdOf ByteArray.empty ((rd_T53 x249000 x6).f3) 0, true)) else (none)) else (none)) else (none)) else (if 0 ≤ x6 then (if x6 < (x249000.length : Int) then (if (rd_T53 x249000 x6).f2 = true then (some ((⟨#[]⟩ : ByteArray), true)) else (some ((rd_T53 x249000 x6).f1, true))) else (none)) else (none))
end
def cowrieref20_Text.f (k : Nat) (l0_0 : List (S53)) (l0_1 : List ByteArray) (a0_2 : Int) (a1 : ByteArray) : Option (ByteArray × Bool) := (cowrieref20_find.f k l0_0 l0_1 a0_2 a1).bind fun t249 => (if a1.toList = ([35] : List UInt8) then ((cowrieref04_Print.f k (l0_1.length : Int)).bind fun t250 => (some (t250, true))) else (if a1.toList = ([63] : List UInt8) then ((cowrieref04_Print.f k a0_2).bind fun t251 => (some (t251, true))) else (if a1.toList = ([64] : List UInt8) then (cowrieref20_Text.j0 k a1 t249 true l0_0 l0_1 a0_2) else (cowrieref20_Text.j0 k a1 t249 (a1.toList == ([42] : List UInt8)) l0_0 l0_1 a0_2))))
set_option maxHeartbeats 8000000 in
set_option maxRecDepth 100000 in
theorem cowrieref20_Text.calls (k : Nat) (bI : Option Addr) (bJ : Nat) (bA : List (S53)) (bG : Option Addr) (bH : Nat) (bD : List ByteArray) (bE : Int) (a1 : ByteArray) (r1 : ByteArray) (r2 : Bool) (w : World) (hr0_0 : Kd.C k53 w bI bA.length bA) (hc0_0 : bA.length ≤ bJ) (hr0_1 : Kd.C Kd.string w bG bD.length bD) (hc0_1 : bD.length ≤ bH) (h : cowrieref20_Text.f k bA bD bE a1 = some (r1, r2)) :
  Calls Tryd.prog 16 #[.agg #[.slice bI bA.length bJ, .slice bG bD.length bH, .int .i64 bE], .string a1] w fun e w' => e = .returned (.tuple #[.string r1, .bool r2]) ∧ Below w.heap.size w w' := by
 have hu25 := Tryd.underlying25
 have bK := bu hr0_0
 have HC0_0 := bu hc0_0
 clear hr0_0 hc0_0
 have HR0_1 := bu hr0_1
 have HC0_1 := bu hc0_1
 clear hr0_1 hc0_1
 have HB := bu (bw w.heap.size w)
 have H : ((cowrieref20_find.f k bA bD bE a1).bind fun bB => (if a1.toList = ([35] : List UInt8) then ((cowrieref04_Print.f k (bD.length : Int)).bind fun t250 => (some (t250, true))) else (if a1.toList = ([63] : List UInt8) then ((cowrieref04_Print.f k bE).bind fun t251 => (some (t251, true))) else (if a1.toList = ([64] : List UInt8) then (cowrieref20_Text.j0 k a1 bB true bA bD bE) else (cowrieref20_Text.j0 k a1 bB (a1.toList == ([42] : List UInt8)) bA bD bE))))) = some (r1, r2) := h
 clear h
 replace H := Option.bind_eq_some_iff.mp H
 obtain ⟨bB, A30, H⟩ := H
 replace H : (if a1.toList = ([35] : List UInt8) then ((cowrieref04_Print.f k (bD.length : Int)).bind fun t250 => (some (t250, true))) else (if a1.toList = ([63] : List UInt8) then ((cowrieref04_Print.f k bE).bind fun t251 => (some (t251, true))) else (if a1.toList = ([64] : List UInt8) then (cowrieref20_Text.j0 k a1 bB true bA bD bE) else (cowrieref20_Text.j0 k a1 bB (a1.toList == ([42] : List UInt8)) bA bD bE)))) = some (r1, r2) := H
 have A3 := bu A30
 clear A30
 by_cases c4 : a1.toList = ([35] : List UInt8)
 ·
  rw [if_pos c4] at H
  have c4b0 : (a1.toList == ([35] : List UInt8)) = true := beq_iff_eq.mpr c4
  have c4b1 : (a1.toList != ([35] : List UInt8)) = false := bne_eq_false_iff_eq.mpr c4
  clear c4
  replace H := Option.bind_eq_some_iff.mp H
  obtain ⟨t250, A50, H⟩ := H
  replace H : (some (t250, true)) = some (r1, r2) := H
  have A5 := bu A50
  clear A50
  simp only [Option.some.injEq, Prod.mk.injEq] at H
  obtain ⟨rfl, rfl⟩ := H
  go_enter Tryd.func16, Tryd.ntmps16
  go_wp2_with (first | ((with_reducible refine gate_dst (N := 2) rfl ?_); (try (refine gate_guard (by rfl) ?_; dsimp only)); refine box_event ?hg (N := 2) ?hd (cs := #[.slice bI bA.length bJ, .slice bG bD.length bH, .int .i64 bE]) (t := 25) ?hr ?_; (case hd => rfl); (case hg => rfl); (case hr => first | (go_simp; done) | (go_simp; rfl)); intro bC hg w6 hbox hb; have bN := bu (below_step (by repeat (first | (with_reducible first | exact HB.out | apply bm | apply bj | apply bn) | exact HB.out)) hb); have bO := bu (hbox); have n2_ := bu ((by rw [hg]; exact (bs (by repeat (first | (with_reducible first | exact HB.out | apply bm | apply bj | apply bn) | exact HB.out))) : w.heap.size ≤ bC)); have n3_ := bu ((by rw [hg]; exact (bs (by repeat (first | (with_reducible first | exact HB.out | apply bm | apply bj | apply bn) | exact HB.out))) : w.heap.size ≤ bC)); clear HB; have HB := bN; have bz := bO; have GW248 := n2_; have bF := n3_; clear bN bO n2_ n3_; clear hb hbox hg; have hcz7_0 : w6.cell? ⟨bC, 0, none⟩ = some (.slice bI bA.length bJ) := (bo bz.out 0).trans rfl; have hcz7_1 : w6.cell? ⟨bC, 1, none⟩ = some (.slice bG bD.length bH) := (bo bz.out 1).trans rfl; have hcz7_2 : w6.cell? ⟨bC, 2, none⟩ = some (.int .i64 bE) := (bo bz.out 2).trans rfl; have hfz7_0 := bk bz.out 0; have hfz7_1 := bk bz.out 1; have hfz7_2 := bk bz.out 2) | ((with_reducible refine bv (f := 37) rfl ?_); refine goesL_ (some 9) rfl rfl Tryd.func37 (by kernel_rfl) rfl #[.agg #[.slice bI bA.length bJ, .slice bG bD.length bH, .int .i64 bE], .string a1] rfl (by (try simp only [List.map_toArray, List.map_cons, List.map_nil]); first | done | rfl | (simp only [List.length_drop, List.length_take]; rfl)) ?_; (with_reducible refine (cowrieref20_find.calls k _ _ bA _ _ bD bE a1 bB _ ?bL ?bM ?side3 ?side4 A3.out).mono ?_); (case bL => repeat (first | exact (br bK.out HB.out) | (with_reducible refine bp ?_ _) | (with_reducible refine bq ?_ _) | (with_reducible refine Kd.C_drew ?_))); (case bM => exact HC0_0.out); (case side3 => repeat (first | exact (br HR0_1.out HB.out) | (with_reducible refine bp ?_ _) | (with_reducible refine bq ?_ _) | (with_reducible refine Kd.C_drew ?_))); (case side4 => exact HC0_1.out); rintro e w8 ⟨rfl, hb⟩; refine ⟨_, rfl, ?_⟩; have bN := bu (bl (g := bC) (o := .cells #[.slice bI bA.length bJ, .slice bG bD.length bH, .int .i64 bE] 25 (0, 0)) (by (with_reducible repeat (first | refine a4 ?_ _ | refine bh ?_ | refine a5 ?_ _)); exact bz.out) hb); have bO := bu (below_step (by repeat (first | (with_reducible first | exact HB.out | apply bm | apply bj | apply bn | refine bi ?_ bF.out) | exact HB.out)) hb); clear bz; clear HB; have bz := bN; have HB := bO; clear bN bO; (try clear hb); (try clear hb2); (try clear hk); (try clear hi); have hcz9_0 : w8.cell? ⟨bC, 0, none⟩ = some (.slice bI bA.length bJ) := (bo bz.out 0).trans rfl; have hcz9_1 : w8.cell? ⟨bC, 1, none⟩ = some (.slice bG bD.length bH) := (bo bz.out 1).trans rfl; have hcz9_2 : w8.cell? ⟨bC, 2, none⟩ = some (.int .i64 bE) := (bo bz.out 2).trans rfl; have hfz9_0 := bk bz.out 0; have hfz9_1 := bk bz.out 1; have hfz9_2 := bk bz.out 2) | ((with_reducible refine bv (f := 38) rfl ?_); refine goesL_ (some 16) rfl rfl Tryd.func38 (by kernel_rfl) rfl #[.int .i64 (bD.length : Int)] rfl (by (try simp only [List.map_toArray, List.map_cons, List.map_nil]); first | done | rfl | (simp only [List.length_drop, List.length_take]; rfl)) ?_; (with_reducible refine (cowrieref04_Print.calls k (bD.length : Int) t250 _ A5.out).mono ?_); rintro e w10 ⟨rfl, hb⟩; refine ⟨_, rfl, ?_⟩; have bN := bu (bl (g := bC) (o := .cells #[.slice bI bA.length bJ, .slice bG bD.length bH, .int .i64 bE] 25 (0, 0)) (by (with_reducible repeat (first | refine a4 ?_ _ | refine bh ?_ | refine a5 ?_ _)); exact bz.out) hb); have bO := bu (below_step (by repeat (first | (with_reducible first | exact HB.out | apply bm | apply bj | apply bn | refine bi ?_ bF.out) | exact HB.out)) hb); clear bz; clear HB; have bz := bN; have HB := bO; clear bN bO; (try clear hb); (try clear hb2); (try clear hk); (try clear hi)))
  go_ret2
  exact ⟨by first | rfl | (simp [errW_none, errW_some] <;> rfl) | (simp [*, errW_none, errW_some] <;> rfl), by repeat (first | (with_reducible first | exact HB.out | apply bm | apply bj | apply bn | refine bi ?_ bF.out) | exact HB.out)⟩
 ·
  rw [if_neg c4] at H
  have c4b0 : (a1.toList == ([35] : List UInt8)) = false := beq_eq_false_iff_ne.mpr c4
  have c4b1 : (a1.toList != ([35] : List UInt8)) = true := bne_iff_ne.mpr c4
  by_cases c11 : a1.toList = ([63] : List UInt8)
  ·
   rw [if_pos c11] at H
   have c11b0 : (a1.toList == ([63] : List UInt8)) = true := beq_iff_eq.mpr c11
   have c11b1 : (a1.toList != ([63] : List UInt8)) = false := bne_eq_false_iff_eq.mpr c11
   clear c11
   replace H := Option.bind_eq_some_iff.mp H
   obtain ⟨t251, A120, H⟩ := H
   replace H : (some (t251, true)) = some (r1, r2) := H
   have A12 := bu A120
   clear A120
   simp only [Option.some.injEq, Prod.mk.injEq] at H
   obtain ⟨rfl, rfl⟩ := H
   go_enter Tryd.func16, Tryd.ntmps16
   go_wp2_with (first | ((with_reducible refine gate_dst (N := 2) rfl ?_); (try (refine gate_guard (by rfl) ?_; dsimp only)); refine box_event ?hg (N := 2) ?hd (cs := #[.slice bI bA.length bJ, .slice bG bD.length bH, .int .i64 bE]) (t := 25) ?hr ?_; (case hd => rfl); (case hg => rfl); (case hr => first | (go_simp; done) | (go_simp; rfl)); intro bC hg w13 hbox hb; have bN := bu (below_step (by repeat (first | (with_reducible first | exact HB.out | apply bm | apply bj | apply bn) | exact HB.out)) hb); have bO := bu (hbox); have n2_ := bu ((by rw [hg]; exact (bs (by repeat (first | (with_reducible first | exact HB.out | apply bm | apply bj | apply bn) | exact HB.out))) : w.heap.size ≤ bC)); have n3_ := bu ((by rw [hg]; exact (bs (by repeat (first | (with_reducible first | exact HB.out | apply bm | apply bj | apply bn) | exact HB.out))) : w.heap.size ≤ bC)); clear HB; have HB := bN; have bz := bO; have GW248 := n2_; have bF := n3_; clear bN bO n2_ n3_; clear hb hbox hg; have hcz14_0 : w13.cell? ⟨bC, 0, none⟩ = some (.slice bI bA.length bJ) := (bo bz.out 0).trans rfl; have hcz14_1 : w13.cell? ⟨bC, 1, none⟩ = some (.slice bG bD.length bH) := (bo bz.out 1).trans rfl; have hcz14_2 : w13.cell? ⟨bC, 2, none⟩ = some (.int .i64 bE) := (bo bz.out 2).trans rfl; have hfz14_0 := bk bz.out 0; have hfz14_1 := bk bz.out 1; have hfz14_2 := bk bz.out 2) | ((with_reducible refine bv (f := 37) rfl ?_); refine goesL_ (some 9) rfl rfl Tryd.func37 (by kernel_rfl) rfl #[.agg #[.slice bI bA.length bJ, .slice bG bD.length bH, .int .i64 bE], .string a1] rfl (by (try simp only [List.map_toArray, List.map_cons, List.map_nil]); first | done | rfl | (simp only [List.length_drop, List.length_take]; rfl)) ?_; (with_reducible refine (cowrieref20_find.calls k _ _ bA _ _ bD bE a1 bB _ ?bL ?bM ?side3 ?side4 A3.out).mono ?_); (case bL => repeat (first | exact (br bK.out HB.out) | (with_reducible refine bp ?_ _) | (with_reducible refine bq ?_ _) | (with_reducible refine Kd.C_drew ?_))); (case bM => exact HC0_0.out); (case side3 => repeat (first | exact (br HR0_1.out HB.out) | (with_reducible refine bp ?_ _) | (with_reducible refine bq ?_ _) | (with_reducible refine Kd.C_drew ?_))); (case side4 => exact HC0_1.out); rintro e w15 ⟨rfl, hb⟩; refine ⟨_, rfl, ?_⟩; have bN := bu (bl (g := bC) (o := .cells #[.slice bI bA.length bJ, .slice bG bD.length bH, .int .i64 bE] 25 (0, 0)) (by (with_reducible repeat (first | refine a4 ?_ _ | refine bh ?_ | refine a5 ?_ _)); exact bz.out) hb); have bO := bu (below_step (by repeat (first | (with_reducible first | exact HB.out | apply bm | apply bj | apply bn | refine bi ?_ bF.out) | exact HB.out)) hb); clear bz; clear HB; have bz := bN; have HB := bO; clear bN bO; (try clear hb); (try clear hb2); (try clear hk); (try clear hi); have hcz16_0 : w15.cell? ⟨bC, 0, none⟩ = some (.slice bI bA.length bJ) := (bo bz.out 0).trans rfl; have hcz16_1 : w15.cell? ⟨bC, 1, none⟩ = some (.slice bG bD.length bH) := (bo bz.out 1).trans rfl; have hcz16_2 : w15.cell? ⟨bC, 2, none⟩ = some (.int .i64 bE) := (bo bz.out 2).trans rfl; have hfz16_0 := bk bz.out 0; have hfz16_1 := bk bz.out 1; have hfz16_2 := bk bz.out 2) | ((with_reducible refine bv (f := 38) rfl ?_); refine goesL_ (some 22) rfl rfl Tryd.func38 (by kernel_rfl) rfl #[.int .i64 bE] rfl (by (try simp only [List.map_toArray, List.map_cons, List.map_nil]); first | done | rfl | (simp only [List.length_drop, List.length_take]; rfl)) ?_; (with_reducible refine (cowrieref04_Print.calls k bE t251 _ A12.out).mono ?_); rintro e w17 ⟨rfl, hb⟩; refine ⟨_, rfl, ?_⟩; have bN := bu (bl (g := bC) (o := .cells #[.slice bI bA.length bJ, .slice bG bD.length bH, .int .i64 bE] 25 (0, 0)) (by (with_reducible repeat (first | refine a4 ?_ _ | refine bh ?_ | refine a5 ?_ _)); exact bz.out) hb); have bO := bu (below_step (by repeat (first | (with_reducible first | exact HB.out | apply bm | apply bj | apply bn | refine bi ?_ bF.out) | exact HB.out)) hb); clear bz; clear HB; have bz := bN; have HB := bO; clear bN bO; (try clear hb); (try clear hb2); (try clear hk); (try clear hi)))
   go_ret2
   exact ⟨by first | rfl | (simp [errW_none, errW_some] <;> rfl) | (simp [*, errW_none, errW_some] <;> rfl), by repeat (first | (with_reducible first | exact HB.out | apply bm | apply bj | apply bn | refine bi ?_ bF.out) | exact HB.out)⟩
  ·
   rw [if_neg c11] at H
   have c11b0 : (a1.toList == ([63] : List UInt8)) = false := beq_eq_false_iff_ne.mpr c11
   have c11b1 : (a1.toList != ([63] : List UInt8)) = true := bne_iff_ne.mpr c11
   have HC18 := bu H
   clear H
   go_enter Tryd.func16, Tryd.ntmps16
   go_upto_region 6 with (first | ((with_reducible refine gate_dst (N := 2) rfl ?_); (try (refine gate_guard (by rfl) ?_; dsimp only)); refine box_event ?hg (N := 2) ?hd (cs := #[.slice bI bA.length bJ, .slice bG bD.length bH, .int .i64 bE]) (t := 25) ?hr ?_; (case hd => rfl); (case hg => rfl); (case hr => first | (go_simp; done) | (go_simp; rfl)); intro bC hg w19 hbox hb; have bN := bu (below_step (by repeat (first | (with_reducible first | exact HB.out | apply bm | apply bj | apply bn) | exact HB.out)) hb); have bO := bu (hbox); have n2_ := bu ((by rw [hg]; exact (bs (by repeat (first | (with_reducible first | exact HB.out | apply bm | apply bj | apply bn) | exact HB.out))) : w.heap.size ≤ bC)); have n3_ := bu ((by rw [hg]; exact (bs (by repeat (first | (with_reducible first | exact HB.out | apply bm | apply bj | apply bn) | exact HB.out))) : w.heap.size ≤ bC)); clear HB; have HB := bN; have bz := bO; have GW248 := n2_; have bF := n3_; clear bN bO n2_ n3_; clear hb hbox hg; have hcz20_0 : w19.cell? ⟨bC, 0, none⟩ = some (.slice bI bA.length bJ) := (bo bz.out 0).trans rfl; have hcz20_1 : w19.cell? ⟨bC, 1, none⟩ = some (.slice bG bD.length bH) := (bo bz.out 1).trans rfl; have hcz20_2 : w19.cell? ⟨bC, 2, none⟩ = some (.int .i64 bE) := (bo bz.out 2).trans rfl; have hfz20_0 := bk bz.out 0; have hfz20_1 := bk bz.out 1; have hfz20_2 := bk bz.out 2) | ((with_reducible refine bv (f := 37) rfl ?_); refine goesL_ (some 9) rfl rfl Tryd.func37 (by kernel_rfl) rfl #[.agg #[.slice bI bA.length bJ, .slice bG bD.length bH, .int .i64 bE], .string a1] rfl (by (try simp only [List.map_toArray, List.map_cons, List.map_nil]); first | done | rfl | (simp only [List.length_drop, List.length_take]; rfl)) ?_; (with_reducible refine (cowrieref20_find.calls k _ _ bA _ _ bD bE a1 bB _ ?bL ?bM ?side3 ?side4 A3.out).mono ?_); (case bL => repeat (first | exact (br bK.out HB.out) | (with_reducible refine bp ?_ _) | (with_reducible refine bq ?_ _) | (with_reducible refine Kd.C_drew ?_))); (case bM => exact HC0_0.out); (case side3 => repeat (first | exact (br HR0_1.out HB.out) | (with_reducible refine bp ?_ _) | (with_reducible refine bq ?_ _) | (with_reducible refine Kd.C_drew ?_))); (case side4 => exact HC0_1.out); rintro e w21 ⟨rfl, hb⟩; refine ⟨_, rfl, ?_⟩; have bN := bu (bl (g := bC) (o := .cells #[.slice bI bA.length bJ, .slice bG bD.length bH, .int .i64 bE] 25 (0, 0)) (by (with_reducible repeat (first | refine a4 ?_ _ | refine bh ?_ | refine a5 ?_ _)); exact bz.out) hb); have bO := bu (below_step (by repeat (first | (with_reducible first | exact HB.out | apply bm | apply bj | apply bn | refine bi ?_ bF.out) | exact HB.out)) hb); clear bz; clear HB; have bz := bN; have HB := bO; clear bN bO; (try clear hb); (try clear hb2); (try clear hk); (try clear hi)))
   (try simp only [Act.put, List.setIfInBounds_toArray, List.set_cons_zero, List.set_cons_succ])
   go_cut [23] (fun v23 wc => ∃ (kq : Nat) (x23_17 : Bool), v23 = .bool x23_17 ∧ Aside0 (cowrieref20_Text.j0 kq a1 bB x23_17 bA bD bE = some (r1, r2)) ∧ Aside0 (kq ≤ k) ∧ Aside0 (wc.heap[bC]? = some (.cells #[(.slice bI bA.length bJ), (.slice bG bD.length bH), .int .i64 bE] 25 (0, 0))) ∧ Aside0 (Below w.heap.size w wc))
   case first =>
    have H := HC18.out
    clear HC18
    by_cases c22 : a1.toList = ([64] : List UInt8)
    ·
     rw [if_pos c22] at H
     have c22b0 : (a1.toList == ([64] : List UInt8)) = true := beq_iff_eq.mpr c22
     have c22b1 : (a1.toList != ([64] : List UInt8)) = false := bne_eq_false_iff_eq.mpr c22
     clear c22
     (first | rw [c22b0] | (simp only [i64_w, i32_w]; rw [c22b0]) | skip)
     have H' := bu H
     clear H
     go_wp2
     go_meet
     case rel => exact ⟨_, (true), (by first | rfl | (simp; done) | (simp [*]; done)), H', ⟨by first | omega | exact Nat.le_refl _⟩, ⟨by (with_reducible repeat (first | refine a4 ?_ _ | refine bh ?_ | refine a5 ?_ _)); exact bz.out⟩, ⟨by repeat (first | (with_reducible first | exact HB.out | apply bm | apply bj | apply bn | refine bi ?_ bF.out) | exact HB.out)⟩⟩
    ·
     rw [if_neg c22] at H
     have c22b0 : (a1.toList == ([64] : List UInt8)) = false := beq_eq_false_iff_ne.mpr c22
     have c22b1 : (a1.toList != ([64] : List UInt8)) = true := bne_iff_ne.mpr c22
     (first | rw [c22b0] | (simp only [i64_w, i32_w]; rw [c22b0]) | skip)
     have H' := bu H
     clear H
     go_wp2
     go_meet
     case rel => exact ⟨_, ((a1.toList == ([42] : List UInt8))), (by first | rfl | (simp; done) | (simp [*]; done)), H', ⟨by first | omega | exact Nat.le_refl _⟩, ⟨by (with_reducible repeat (first | refine a4 ?_ _ | refine bh ?_ | refine a5 ?_ _)); exact bz.out⟩, ⟨by repeat (first | (with_reducible first | exact HB.out | apply bm | apply bj | apply bn | refine bi ?_ bF.out) | exact HB.out)⟩⟩
   case rest =>
    clear HC18
    try clear c1
    try clear c2
    try clear p2
    try clear c3
    try clear c4
    try clear c4b0
    try clear c4b1
    try clear c11
    try clear c11b0
    try clear c11b1
    try clear c16
    try clear c22
    try clear c22b0
    try clear c22b1
    try clear hcz14_0
    try clear hcz14_1
    try clear hcz14_2
    try clear hcz16_0
    try clear hcz16_1
    try clear hcz16_2
    try clear hcz20_0
    try clear hcz20_1
    try clear hcz20_2
    try clear hcz7_0
    try clear hcz7_1
    try clear hcz7_2
    try clear hcz9_0
    try clear hcz9_1
    try clear hcz9_2
    try clear hfz14_0
    try clear hfz14_1
    try clear hfz14_2
    try clear hfz16_0
    try clear hfz16_1
    try clear hfz16_2
    try clear hfz20_0
    try clear hfz20_1
    try clear hfz20_2
    try clear hfz7_0
    try clear hfz7_1
    try clear hfz7_2
    try clear hfz9_0
    try clear hfz9_1
    try clear hfz9_2
    obtain ⟨kq, x23_17, rfl, HA, HJ17, bz, HB⟩ := hcut
    cases kq with
    | zero => exact absurd HA.out (by simp [cowrieref20_Text.j0])
    | succ kj17 =>
     have H := HA.out
     clear HA
     simp only [cowrieref20_Text.j0] at H
     by_cases c23 : x23_17 = true
     ·
      subst c23
      have H1 : ((cowrieref20_joined.f kj17 bD).bind fun t252 => (some (t252, true))) = some (r1, r2) := by rw [if_pos rfl] at H; exact H
      clear H
      have H := H1
      clear H1
      replace H := Option.bind_eq_some_iff.mp H
      obtain ⟨t252, A240, H⟩ := H
      replace H : (some (t252, true)) = some (r1, r2) := H
      have A24 := bu A240
      clear A240
      simp only [Option.some.injEq, Prod.mk.injEq] at H
      obtain ⟨rfl, rfl⟩ := H
      have hcz25_0 : wc.cell? ⟨bC, 0, none⟩ = some (.slice bI bA.length bJ) := (bo bz.out 0).trans rfl
      have hcz25_1 : wc.cell? ⟨bC, 1, none⟩ = some (.slice bG bD.length bH) := (bo bz.out 1).trans rfl
      have hcz25_2 : wc.cell? ⟨bC, 2, none⟩ = some (.int .i64 bE) := (bo bz.out 2).trans rfl
      have hfz25_0 := bk bz.out 0
      have hfz25_1 := bk bz.out 1
      have hfz25_2 := bk bz.out 2
      go_wp2_with (first | ((with_reducible refine bv (f := 39) rfl ?_); refine goesL_ (some 32) rfl rfl Tryd.func39 (by kernel_rfl) rfl #[.slice bG bD.length bH] rfl (by (try simp only [List.map_toArray, List.map_cons, List.map_nil]); first | done | rfl | (simp only [List.length_drop, List.length_take]; rfl)) ?_; (with_reducible refine (cowrieref20_joined.calls kj17 _ _ bD t252 _ ?bL ?bM A24.out).mono ?_); (case bL => repeat (first | exact (br HR0_1.out HB.out) | (with_reducible refine bp ?_ _) | (with_reducible refine bq ?_ _) | (with_reducible refine Kd.C_drew ?_))); (case bM => exact HC0_1.out); rintro e w' ⟨rfl, ⟨nd, rfl⟩⟩; refine ⟨_, rfl, ?_⟩))
      go_ret2
      exact ⟨by first | rfl | (simp [errW_none, errW_some] <;> rfl) | (simp [*, errW_none, errW_some] <;> rfl), by repeat (first | (with_reducible first | exact HB.out | apply bm | apply bj | apply bn | refine bi ?_ bF.out) | exact HB.out)⟩
     ·
      replace c23 := Bool.eq_false_iff.mpr c23
      subst c23
      have H1 : ((cowrieref01_Digits.f kj17 a1).bind fun t253 => (if t253 = true then ((cowrieref20_argument.f kj17 bA bD bE a1).bind fun bP => (some (bP.1, bP.2))) else (if bB < 0 then (cowrieref20_Text.j1 kj17 bB true bA bD bE) else ((cowrieref01_Name.f kj17 a1).bind fun t256 => (cowrieref20_Text.j1 kj17 bB (!t256) bA bD bE))))) = some (r1, r2) := by rw [if_neg (show ¬ (false = true) by decide)] at H; exact H
      clear H
      have H := H1
      clear H1
      replace H := Option.bind_eq_some_iff.mp H
      obtain ⟨t253, A260, H⟩ := H
      replace H : (if t253 = true then ((cowrieref20_argument.f kj17 bA bD bE a1).bind fun bP => (some (bP.1, bP.2))) else (if bB < 0 then (cowrieref20_Text.j1 kj17 bB true bA bD bE) else ((cowrieref01_Name.f kj17 a1).bind fun t256 => (cowrieref20_Text.j1 kj17 bB (!t256) bA bD bE)))) = some (r1, r2) := H
      have A26 := bu A260
      clear A260
      by_cases c27 : t253 = true
      ·
       subst c27
       have H1 : ((cowrieref20_argument.f kj17 bA bD bE a1).bind fun bP => (some (bP.1, bP.2))) = some (r1, r2) := by rw [if_pos rfl] at H; exact H
       clear H
       have H := H1
       clear H1
       replace H := Option.bind_eq_some_iff.mp H
       obtain ⟨⟨t254, t255⟩, A280, H⟩ := H
       replace H : (some (t254, t255)) = some (r1, r2) := H
       have A28 := bu A280
       clear A280
       simp only [Option.some.injEq, Prod.mk.injEq] at H
       obtain ⟨rfl, rfl⟩ := H
       go_wp2_with (first | ((with_reducible refine bv (f := 40) rfl ?_); refine goesL_ (some 35) rfl rfl Tryd.func40 (by kernel_rfl) rfl #[.string a1] rfl (by (try simp only [List.map_toArray, List.map_cons, List.map_nil]); first | done | rfl | (simp only [List.length_drop, List.length_take]; rfl)) ?_; (with_reducible refine (cowrieref01_Digits.calls kj17 a1 true _ A26.out).mono ?_); rintro e w' ⟨rfl, ⟨nd, rfl⟩⟩; refine ⟨_, rfl, ?_⟩; have hcz29_0 : wc.cell? ⟨bC, 0, none⟩ = some (.slice bI bA.length bJ) := (bo bz.out 0).trans rfl; have hcz29_1 : wc.cell? ⟨bC, 1, none⟩ = some (.slice bG bD.length bH) := (bo bz.out 1).trans rfl; have hcz29_2 : wc.cell? ⟨bC, 2, none⟩ = some (.int .i64 bE) := (bo bz.out 2).trans rfl; have hfz29_0 := bk bz.out 0; have hfz29_1 := bk bz.out 1; have hfz29_2 := bk bz.out 2) | ((with_reducible refine bv (f := 41) rfl ?_); refine goesL_ (some 38) rfl rfl Tryd.func41 (by kernel_rfl) rfl #[.agg #[.slice bI bA.length bJ, .slice bG bD.length bH, .int .i64 bE], .string a1] rfl (by (try simp only [List.map_toArray, List.map_cons, List.map_nil]); first | done | rfl | (simp only [List.length_drop, List.length_take]; rfl)) ?_; (with_reducible refine (cowrieref20_argument.calls kj17 _ _ bA _ _ bD bE a1 t254 t255 _ ?bL ?bM ?side3 ?side4 A28.out).mono ?_); (case bL => repeat (first | exact (br bK.out (by repeat (first | (with_reducible first | exact HB.out | apply bm | apply bj | apply bn | refine bi ?_ bF.out) | exact HB.out))) | (with_reducible refine bp ?_ _) | (with_reducible refine bq ?_ _) | (with_reducible refine Kd.C_drew ?_))); (case bM => exact HC0_0.out); (case side3 => repeat (first | exact (br HR0_1.out (by repeat (first | (with_reducible first | exact HB.out | apply bm | apply bj | apply bn | refine bi ?_ bF.out) | exact HB.out))) | (with_reducible refine bp ?_ _) | (with_reducible refine bq ?_ _) | (with_reducible refine Kd.C_drew ?_))); (case side4 => exact HC0_1.out); rintro e w30 ⟨rfl, hb⟩; refine ⟨_, rfl, ?_⟩; have bN := bu (bl (g := bC) (o := .cells #[.slice bI bA.length bJ, .slice bG bD.length bH, .int .i64 bE] 25 (0, 0)) (by (with_reducible repeat (first | refine a4 ?_ _ | refine bh ?_ | refine a5 ?_ _)); exact bz.out) hb); have bO := bu (below_step (by repeat (first | (with_reducible first | exact HB.out | apply bm | apply bj | apply bn | refine bi ?_ bF.out) | exact HB.out)) hb); clear bz; clear HB; have bz := bN; have HB := bO; clear bN bO; (try clear hb); (try clear hb2); (try clear hk); (try clear hi)))
       go_ret2
       exact ⟨by first | rfl | (simp [errW_none, errW_some] <;> rfl) | (simp [*, errW_none, errW_some] <;> rfl), by repeat (first | (with_reducible first | exact HB.out | apply bm | apply bj | apply bn | refine bi ?_ bF.out) | exact HB.out)⟩
      ·
       replace c27 := Bool.eq_false_iff.mpr c27
       subst c27
       have H1 : (if bB < 0 then (cowrieref20_Text.j1 kj17 bB true bA bD bE) else ((cowrieref01_Name.f kj17 a1).bind fun t256 => (cowrieref20_Text.j1 kj17 bB (!t256) bA bD bE))) = some (r1, r2) := by rw [if_neg (show ¬ (false = true) by decide)] at H; exact H
       clear H
       have H := H1
       clear H1
       have HC31 := bu H
       clear H
       go_upto_region 10 with (first | ((with_reducible refine bv (f := 40) rfl ?_); refine goesL_ (some 35) rfl rfl Tryd.func40 (by kernel_rfl) rfl #[.string a1] rfl (by (try simp only [List.map_toArray, List.map_cons, List.map_nil]); first | done | rfl | (simp only [List.length_drop, List.length_take]; rfl)) ?_; (with_reducible refine (cowrieref01_Digits.calls kj17 a1 false _ A26.out).mono ?_); rintro e w' ⟨rfl, ⟨nd, rfl⟩⟩; refine ⟨_, rfl, ?_⟩))
       (try simp only [Act.put, List.setIfInBounds_toArray, List.set_cons_zero, List.set_cons_succ])
       go_cut [41] (fun v41 wc => ∃ (kq : Nat) (x41_30 : Bool), v41 = .bool x41_30 ∧ Aside0 (cowrieref20_Text.j1 kq bB x41_30 bA bD bE = some (r1, r2)) ∧ Aside0 (kq ≤ kj17) ∧ Aside0 (wc.heap[bC]? = some (.cells #[(.slice bI bA.length bJ), (.slice bG bD.length bH), .int .i64 bE] 25 (0, 0))) ∧ Aside0 (Below w.heap.size w wc))
       case first =>
        have H := HC31.out
        clear HC31
        by_cases c32 : bB < 0
        ·
         rw [if_pos c32] at H
         have c32b0 : decide (bB < 0) = true := decide_eq_true c32
         clear c32
         (first | rw [c32b0] | (simp only [i64_w, i32_w]; rw [c32b0]) | skip)
         have H' := bu H
         clear H
         go_wp2
         go_meet
         case rel => exact ⟨_, (true), (by first | rfl | (simp; done) | (simp [*]; done)), H', ⟨by have := HJ17.out; first | omega | exact Nat.le_refl _⟩, ⟨by (with_reducible repeat (first | refine a4 ?_ _ | refine bh ?_ | refine a5 ?_ _)); exact bz.out⟩, ⟨by repeat (first | (with_reducible first | exact HB.out | apply bm | apply bj | apply bn | refine bi ?_ bF.out) | exact HB.out)⟩⟩
        ·
         rw [if_neg c32] at H
         have c32b0 : decide (bB < 0) = false := decide_eq_false c32
         clear c32
         (first | rw [c32b0] | (simp only [i64_w, i32_w]; rw [c32b0]) | skip)
         replace H := Option.bind_eq_some_iff.mp H
         obtain ⟨t256, A330, H⟩ := H
         replace H : (cowrieref20_Text.j1 kj17 bB (!t256) bA bD bE) = some (r1, r2) := H
         have A33 := bu A330
         clear A330
         have H' := bu H
         clear H
         go_wp2_with (first | (go_at_call 27; (with_reducible refine (cowrieref01_Name.calls kj17 a1 t256 _ A33.out).mono ?_); rintro e w' ⟨rfl, ⟨nd, rfl⟩⟩))
         go_meet
         case rel => exact ⟨_, (!t256), (by first | rfl | (simp; done) | (simp [*]; done)), H', ⟨by have := HJ17.out; first | omega | exact Nat.le_refl _⟩, ⟨by (with_reducible repeat (first | refine a4 ?_ _ | refine bh ?_ | refine a5 ?_ _)); exact bz.out⟩, ⟨by repeat (first | (with_reducible first | exact HB.out | apply bm | apply bj | apply bn | refine bi ?_ bF.out) | exact HB.out)⟩⟩
       case rest =>
        clear HC31
        try clear c1
        try clear c2
        try clear p2
        try clear c3
        try clear c4
        try clear c4b0
        try clear c4b1
        try clear c11
        try clear c11b0
        try clear c11b1
        try clear c16
        try clear c22
        try clear c22b0
        try clear c22b1
        try clear c23
        try clear c27
        try clear c32
        try clear c32b0
        try clear hcz14_0
        try clear hcz14_1
        try clear hcz14_2
        try clear hcz16_0
        try clear hcz16_1
        try clear hcz16_2
        try clear hcz20_0
        try clear hcz20_1
        try clear hcz20_2
        try clear hcz25_0
        try clear hcz25_1
        try clear hcz25_2
        try clear hcz29_0
        try clear hcz29_1
        try clear hcz29_2
        try clear hcz7_0
        try clear hcz7_1
        try clear hcz7_2
        try clear hcz9_0
        try clear hcz9_1
        try clear hcz9_2
        try clear hfz14_0
        try clear hfz14_1
        try clear hfz14_2
        try clear hfz16_0
        try clear hfz16_1
        try clear hfz16_2
        try clear hfz20_0
        try clear hfz20_1
        try clear hfz20_2
        try clear hfz25_0
        try clear hfz25_1
        try clear hfz25_2
        try clear hfz29_0
        try clear hfz29_1
        try clear hfz29_2
        try clear hfz7_0
        try clear hfz7_1
        try clear hfz7_2
        try clear hfz9_0
        try clear hfz9_1
        try clear hfz9_2
        try clear p2
        obtain ⟨kq, x41_30, rfl, HA, HJ30, bz, HB⟩ := hcut
        cases kq with
        | zero => exact absurd HA.out (by simp [cowrieref20_Text.j1])
        | succ kj30 =>
         have H := HA.out
         clear HA
         simp only [cowrieref20_Text.j1] at H
         by_cases c34 : x41_30 = true
         ·
          subst c34
          have H1 : (some ((⟨#[]⟩ : ByteArray), false)) = some (r1, r2) := by rw [if_pos rfl] at H; exact H
          clear H
          have H := H1
          clear H1
          simp only [Option.some.injEq, Prod.mk.injEq] at H
          obtain ⟨rfl, rfl⟩ := H
          go_wp2
          go_ret2
          exact ⟨by first | rfl | (simp [errW_none, errW_some] <;> rfl) | (simp [*, errW_none, errW_some] <;> rfl), by repeat (first | (with_reducible first | exact HB.out | apply bm | apply bj | apply bn | refine bi ?_ bF.out) | exact HB.out)⟩
         ·
          replace c34 := Bool.eq_false_iff.mpr c34
          subst c34
          have H1 : (if 0 ≤ bB then (if bB < (bA.length : Int) then (if (rd_T53 bA bB).f2 = true then (cowrieref20_Text.j2 kj30 bB (decide ((((rd_T53 bA bB).f3).length : Int) > 0)) bA bD bE) else (cowrieref20_Text.j2 kj30 bB false bA bD bE)) else (none)) else (none)) = some (r1, r2) := by rw [if_neg (show ¬ (false = true) by decide)] at H; exact H
          clear H
          have H := H1
          clear H1
          have HC35 := bu H
          clear H
          go_upto_region 12 with (fail)
          go_cut [49] (fun v49 wc => ∃ (kq : Nat) (x49_34 : Bool), v49 = .bool x49_34 ∧ Aside0 (cowrieref20_Text.j2 kq bB x49_34 bA bD bE = some (r1, r2)) ∧ Aside0 (kq ≤ kj30) ∧ Aside0 (wc.heap[bC]? = some (.cells #[(.slice bI bA.length bJ), (.slice bG bD.length bH), .int .i64 bE] 25 (0, 0))) ∧ Aside0 (Below w.heap.size w wc))
          case first =>
           have H := HC35.out
           clear HC35
           by_cases c36 : 0 ≤ bB
           ·
            rw [if_pos c36] at H
            have c36b0 : decide (0 ≤ bB) = true := decide_eq_true c36
            clear c36
            (first | rw [c36b0] | (simp only [i64_w, i32_w]; rw [c36b0]) | skip)
            by_cases c37 : bB < (bA.length : Int)
            ·
             rw [if_pos c37] at H
             have c37b0 : decide (bB < (bA.length : Int)) = true := decide_eq_true c37
             clear c37
             obtain ⟨bq38, hbq38⟩ : ∃ b_ : Bool, b_ = ((rd_T53 bA bB).f2) := ⟨_, rfl⟩
             replace H : (if bq38 = true then (cowrieref20_Text.j2 kj30 bB (decide ((((rd_T53 bA bB).f3).length : Int) > 0)) bA bD bE) else (cowrieref20_Text.j2 kj30 bB false bA bD bE)) = some (r1, r2) := by rw [← hbq38] at H; exact H
             have Nbq38 := bu hbq38
             clear hbq38
             by_cases c39 : bq38 = true
             ·
              subst c39
              have H1 : (cowrieref20_Text.j2 kj30 bB (decide ((((rd_T53 bA bB).f3).length : Int) > 0)) bA bD bE) = some (r1, r2) := by rw [if_pos rfl] at H; exact H
              clear H
              have H := H1
              clear H1
              have H' := bu H
              clear H
              have hcz40_0 : wc.cell? ⟨bC, 0, none⟩ = some (.slice bI bA.length bJ) := (bo bz.out 0).trans rfl
              have hcz40_1 : wc.cell? ⟨bC, 1, none⟩ = some (.slice bG bD.length bH) := (bo bz.out 1).trans rfl
              have hcz40_2 : wc.cell? ⟨bC, 2, none⟩ = some (.int .i64 bE) := (bo bz.out 2).trans rfl
              have hfz40_0 := bk bz.out 0
              have hfz40_1 := bk bz.out 1
              have hfz40_2 := bk bz.out 2
              have p257 : 0 ≤ (bB : Int) := of_decide_eq_true (by first | (with_reducible assumption) | assumption)
              have q257 : bB < (bA.length : Int) := of_decide_eq_true (by first | (with_reducible assumption) | assumption)
              obtain ⟨ad257, A257_3, c257_3, e257, hx257_0, hx257_1, hx257_2, hx257_3, hl257_3, hi257_3⟩ := at_T53 bK.out bB p257 q257
              (try rw [← Nbq38.out] at hx257_2)
              cases e257
              replace hx257_0 := (HB.out.cell (World.block_lt_of_cell? w _ hx257_0)).trans hx257_0
              replace hx257_1 := (HB.out.cell (World.block_lt_of_cell? w _ hx257_1)).trans hx257_1
              replace hx257_2 := (HB.out.cell (World.block_lt_of_cell? w _ hx257_2)).trans hx257_2
              replace hx257_3 := (HB.out.cell (World.block_lt_of_cell? w _ hx257_3)).trans hx257_3
              have HR257_3 := bu hi257_3
              have HC257_3 := bu hl257_3
              clear hi257_3 hl257_3
              replace p257 := eq_true p257
              replace q257 := eq_true q257
              have p258 : 0 ≤ (bB : Int) := of_decide_eq_true (by first | (with_reducible assumption) | assumption)
              have q258 : bB < (bA.length : Int) := of_decide_eq_true (by first | (with_reducible assumption) | assumption)
              obtain ⟨ad258, A258_3, c258_3, e258, hx258_0, hx258_1, hx258_2, hx258_3, hl258_3, hi258_3⟩ := at_T53 bK.out bB p258 q258
              (try rw [← Nbq38.out] at hx258_2)
              obtain rfl : ad257 = ad258 := (by injection e258)
              replace hx258_0 := (HB.out.cell (World.block_lt_of_cell? w _ hx258_0)).trans hx258_0
              replace hx258_1 := (HB.out.cell (World.block_lt_of_cell? w _ hx258_1)).trans hx258_1
              replace hx258_2 := (HB.out.cell (World.block_lt_of_cell? w _ hx258_2)).trans hx258_2
              replace hx258_3 := (HB.out.cell (World.block_lt_of_cell? w _ hx258_3)).trans hx258_3
              have HR258_3 := bu hi258_3
              have HC258_3 := bu hl258_3
              clear hi258_3 hl258_3
              replace p258 := eq_true p258
              replace q258 := eq_true q258
              have ea_ := Option.some.inj (hx257_3.symm.trans hx258_3)
              injection ea_ with ea_ en_ ec_
              subst ea_
              subst ec_
              clear en_
              go_wp2
              go_meet
              case rel => exact ⟨_, (decide ((((rd_T53 bA bB).f3).length : Int) > 0)), (by first | rfl | (simp; done) | (simp [*]; done)), H', ⟨by have := HJ17.out; have := HJ30.out; first | omega | exact Nat.le_refl _⟩, ⟨by (with_reducible repeat (first | refine a4 ?_ _ | refine bh ?_ | refine a5 ?_ _)); exact bz.out⟩, ⟨by repeat (first | (with_reducible first | exact HB.out | apply bm | apply bj | apply bn | refine bi ?_ bF.out) | exact HB.out)⟩⟩
             ·
              replace c39 := Bool.eq_false_iff.mpr c39
              subst c39
              have H1 : (cowrieref20_Text.j2 kj30 bB false bA bD bE) = some (r1, r2) := by rw [if_neg (show ¬ (false = true) by decide)] at H; exact H
              clear H
              have H := H1
              clear H1
              have H' := bu H
              clear H
              have hcz41_0 : wc.cell? ⟨bC, 0, none⟩ = some (.slice bI bA.length bJ) := (bo bz.out 0).trans rfl
              have hcz41_1 : wc.cell? ⟨bC, 1, none⟩ = some (.slice bG bD.length bH) := (bo bz.out 1).trans rfl
              have hcz41_2 : wc.cell? ⟨bC, 2, none⟩ = some (.int .i64 bE) := (bo bz.out 2).trans rfl
              have hfz41_0 := bk bz.out 0
              have hfz41_1 := bk bz.out 1
              have hfz41_2 := bk bz.out 2
              have p257 : 0 ≤ (bB : Int) := of_decide_eq_true (by first | (with_reducible assumption) | assumption)
              have q257 : bB < (bA.length : Int) := of_decide_eq_true (by first | (with_reducible assumption) | assumption)
              obtain ⟨ad257, A257_3, c257_3, e257, hx257_0, hx257_1, hx257_2, hx257_3, hl257_3, hi257_3⟩ := at_T53 bK.out bB p257 q257
              (try rw [← Nbq38.out] at hx257_2)
              cases e257
              replace hx257_0 := (HB.out.cell (World.block_lt_of_cell? w _ hx257_0)).trans hx257_0
              replace hx257_1 := (HB.out.cell (World.block_lt_of_cell? w _ hx257_1)).trans hx257_1
              replace hx257_2 := (HB.out.cell (World.block_lt_of_cell? w _ hx257_2)).trans hx257_2
              replace hx257_3 := (HB.out.cell (World.block_lt_of_cell? w _ hx257_3)).trans hx257_3
              have HR257_3 := bu hi257_3
              have HC257_3 := bu hl257_3
              clear hi257_3 hl257_3
              replace p257 := eq_true p257
              replace q257 := eq_true q257
              go_wp2
              go_meet
              case rel => exact ⟨_, (false), (by first | rfl | (simp; done) | (simp [*]; done)), H', ⟨by have := HJ17.out; have := HJ30.out; first | omega | exact Nat.le_refl _⟩, ⟨by (with_reducible repeat (first | refine a4 ?_ _ | refine bh ?_ | refine a5 ?_ _)); exact bz.out⟩, ⟨by repeat (first | (with_reducible first | exact HB.out | apply bm | apply bj | apply bn | refine bi ?_ bF.out) | exact HB.out)⟩⟩
            ·
             rw [if_neg c37] at H
             exact absurd H (by simp)
           ·
            rw [if_neg c36] at H
            exact absurd H (by simp)
          case rest =>
           clear HC35
           try clear c1
           try clear c2
           try clear p2
           try clear q2
           try clear hx2
           try clear c3
           try clear q3
           try clear c4
           try clear c4b0
           try clear c4b1
           try clear c11
           try clear c11b0
           try clear c11b1
           try clear c16
           try clear c22
           try clear c22b0
           try clear c22b1
           try clear c23
           try clear c25
           try clear p25
           try clear q25
           try clear hx25
           try clear c27
           try clear c32
           try clear c32b0
           try clear c34
           try clear c36
           try clear c36b0
           try clear c37
           try clear c37b0
           try clear c38
           try clear q38
           try clear c39
           try clear c40
           try clear c41
           try clear hcz14_0
           try clear hcz14_1
           try clear hcz14_2
           try clear hcz16_0
           try clear hcz16_1
           try clear hcz16_2
           try clear hcz20_0
           try clear hcz20_1
           try clear hcz20_2
           try clear hcz25_0
           try clear hcz25_1
           try clear hcz25_2
           try clear hcz29_0
           try clear hcz29_1
           try clear hcz29_2
           try clear hcz40_0
           try clear hcz40_1
           try clear hcz40_2
           try clear hcz41_0
           try clear hcz41_1
           try clear hcz41_2
           try clear hcz7_0
           try clear hcz7_1
           try clear hcz7_2
           try clear hcz9_0
           try clear hcz9_1
           try clear hcz9_2
           try clear hfz14_0
           try clear hfz14_1
           try clear hfz14_2
           try clear hfz16_0
           try clear hfz16_1
           try clear hfz16_2
           try clear hfz20_0
           try clear hfz20_1
           try clear hfz20_2
           try clear hfz25_0
           try clear hfz25_1
           try clear hfz25_2
           try clear hfz29_0
           try clear hfz29_1
           try clear hfz29_2
           try clear hfz40_0
           try clear hfz40_1
           try clear hfz40_2
           try clear hfz41_0
           try clear hfz41_1
           try clear hfz41_2
           try clear hfz7_0
           try clear hfz7_1
           try clear hfz7_2
           try clear hfz9_0
           try clear hfz9_1
           try clear hfz9_2
           try clear hx257_0
           try clear hx257_1
           try clear hx257_2
           try clear hx257_3
           try clear hx258_0
           try clear hx258_1
           try clear hx258_2
           try clear hx258_3
           try clear p2
           try clear p257
           try clear p258
           try clear q257
           try clear q258
           obtain ⟨kq, x49_34, rfl, HA, HJ34, bz, HB⟩ := hcut
           cases kq with
           | zero => exact absurd HA.out (by simp [cowrieref20_Text.j2])
           | succ kj34 =>
            have H := HA.out
            clear HA
            simp only [cowrieref20_Text.j2] at H
            by_cases c42 : x49_34 = true
            ·
             subst c42
             have H1 : (if 0 ≤ bB then (if bB < (bA.length : Int) then (if 0 < (((rd_T53 bA bB).f3).length : Int) then (some (rdOf ByteArray.empty ((rd_T53 bA bB).f3) 0, true)) else (none)) else (none)) else (none)) = some (r1, r2) := by rw [if_pos rfl] at H; exact H
             clear H
             have H := H1
             clear H1
             by_cases c43 : 0 ≤ bB
             ·
              rw [if_pos c43] at H
              have c43b0 : decide (0 ≤ bB) = true := decide_eq_true c43
              clear c43
              by_cases c44 : bB < (bA.length : Int)
              ·
               rw [if_pos c44] at H
               have c44b0 : decide (bB < (bA.length : Int)) = true := decide_eq_true c44
               clear c44
               by_cases c45 : 0 < (((rd_T53 bA bB).f3).length : Int)
               ·
                rw [if_pos c45] at H
                have c45b0 : decide (0 < (((rd_T53 bA bB).f3).length : Int)) = true := decide_eq_true c45
                have c45b1 : decide (0 < ((rd_T53 bA bB).f3).length) = true := decide_eq_true (by omega)
                clear c45
                simp only [Option.some.injEq, Prod.mk.injEq] at H
                obtain ⟨rfl, rfl⟩ := H
                have hcz46_0 : wc.cell? ⟨bC, 0, none⟩ = some (.slice bI bA.length bJ) := (bo bz.out 0).trans rfl
                have hcz46_1 : wc.cell? ⟨bC, 1, none⟩ = some (.slice bG bD.length bH) := (bo bz.out 1).trans rfl
                have hcz46_2 : wc.cell? ⟨bC, 2, none⟩ = some (.int .i64 bE) := (bo bz.out 2).trans rfl
                have hfz46_0 := bk bz.out 0
                have hfz46_1 := bk bz.out 1
                have hfz46_2 := bk bz.out 2
                have p259 : 0 ≤ (bB : Int) := of_decide_eq_true (by first | (with_reducible assumption) | assumption)
                have q259 : bB < (bA.length : Int) := of_decide_eq_true (by first | (with_reducible assumption) | assumption)
                obtain ⟨ad259, A259_3, c259_3, e259, hx259_0, hx259_1, hx259_2, hx259_3, hl259_3, hi259_3⟩ := at_T53 bK.out bB p259 q259
                cases e259
                replace hx259_0 := (HB.out.cell (World.block_lt_of_cell? w _ hx259_0)).trans hx259_0
                replace hx259_1 := (HB.out.cell (World.block_lt_of_cell? w _ hx259_1)).trans hx259_1
                replace hx259_2 := (HB.out.cell (World.block_lt_of_cell? w _ hx259_2)).trans hx259_2
                replace hx259_3 := (HB.out.cell (World.block_lt_of_cell? w _ hx259_3)).trans hx259_3
                have HR259_3 := bu hi259_3
                have HC259_3 := bu hl259_3
                clear hi259_3 hl259_3
                replace p259 := eq_true p259
                replace q259 := eq_true q259
                have p260 : 0 ≤ (0 : Int) := (by omega)
                have q260 : 0 < (((rd_T53 bA bB).f3).length : Int) := of_decide_eq_true (by first | (with_reducible assumption) | assumption)
                obtain ⟨ad260, e260, hx260_0⟩ := Kd.at_string HR259_3.out 0 p260 q260
                cases e260
                have qi260 : (0 < ((rd_T53 bA bB).f3).length) = True := eq_true (by omega)
                (try rw [show ((0 : Int)).toNat = 0 from rfl] at hx260_0)
                (try rw [Addr.add_zero'] at hx260_0)
                replace hx260_0 := (HB.out.cell (World.block_lt_of_cell? w _ hx260_0)).trans hx260_0
                replace p260 := eq_true p260
                replace q260 := eq_true q260
                go_wp2
                go_ret2
                exact ⟨by first | rfl | (simp [errW_none, errW_some] <;> rfl) | (simp [*, errW_none, errW_some] <;> rfl), by repeat (first | (with_reducible first | exact HB.out | apply bm | apply bj | apply bn | refine bi ?_ bF.out) | exact HB.out)⟩
               ·
                rw [if_neg c45] at H
                exact absurd H (by simp)
              ·
               rw [if_neg c44] at H
               exact absurd H (by simp)
             ·
              rw [if_neg c43] at H
              exact absurd H (by simp)
            ·
             replace c42 := Bool.eq_false_iff.mpr c42
             subst c42
             have H1 : (if 0 ≤ bB then (if bB < (bA.length : Int) then (if (rd_T53 bA bB).f2 = true then (some ((⟨#[]⟩ : ByteArray), true)) else (some ((rd_T53 bA bB).f1, true))) else (none)) else (none)) = some (r1, r2) := by rw [if_neg (show ¬ (false = true) by decide)] at H; exact H
             clear H
             have H := H1
             clear H1
             by_cases c47 : 0 ≤ bB
             ·
              rw [if_pos c47] at H
              have c47b0 : decide (0 ≤ bB) = true := decide_eq_true c47
              clear c47
              by_cases c48 : bB < (bA.length : Int)
              ·
               rw [if_pos c48] at H
               have c48b0 : decide (bB < (bA.length : Int)) = true := decide_eq_true c48
               clear c48
               obtain ⟨bq49, hbq49⟩ : ∃ b_ : Bool, b_ = ((rd_T53 bA bB).f2) := ⟨_, rfl⟩
               replace H : (if bq49 = true then (some ((⟨#[]⟩ : ByteArray), true)) else (some ((rd_T53 bA bB).f1, true))) = some (r1, r2) := by rw [← hbq49] at H; exact H
               have Nbq49 := bu hbq49
               clear hbq49
               by_cases c50 : bq49 = true
               ·
                subst c50
                have H1 : (some ((⟨#[]⟩ : ByteArray), true)) = some (r1, r2) := by rw [if_pos rfl] at H; exact H
                clear H
                have H := H1
                clear H1
                simp only [Option.some.injEq, Prod.mk.injEq] at H
                obtain ⟨rfl, rfl⟩ := H
                have hcz51_0 : wc.cell? ⟨bC, 0, none⟩ = some (.slice bI bA.length bJ) := (bo bz.out 0).trans rfl
                have hcz51_1 : wc.cell? ⟨bC, 1, none⟩ = some (.slice bG bD.length bH) := (bo bz.out 1).trans rfl
                have hcz51_2 : wc.cell? ⟨bC, 2, none⟩ = some (.int .i64 bE) := (bo bz.out 2).trans rfl
                have hfz51_0 := bk bz.out 0
                have hfz51_1 := bk bz.out 1
                have hfz51_2 := bk bz.out 2
                have p261 : 0 ≤ (bB : Int) := of_decide_eq_true (by first | (with_reducible assumption) | assumption)
                have q261 : bB < (bA.length : Int) := of_decide_eq_true (by first | (with_reducible assumption) | assumption)
                obtain ⟨ad261, A261_3, c261_3, e261, hx261_0, hx261_1, hx261_2, hx261_3, hl261_3, hi261_3⟩ := at_T53 bK.out bB p261 q261
                (try rw [← Nbq49.out] at hx261_2)
                cases e261
                replace hx261_0 := (HB.out.cell (World.block_lt_of_cell? w _ hx261_0)).trans hx261_0
                replace hx261_1 := (HB.out.cell (World.block_lt_of_cell? w _ hx261_1)).trans hx261_1
                replace hx261_2 := (HB.out.cell (World.block_lt_of_cell? w _ hx261_2)).trans hx261_2
                replace hx261_3 := (HB.out.cell (World.block_lt_of_cell? w _ hx261_3)).trans hx261_3
                have HR261_3 := bu hi261_3
                have HC261_3 := bu hl261_3
                clear hi261_3 hl261_3
                replace p261 := eq_true p261
                replace q261 := eq_true q261
                go_wp2
                go_ret2
                exact ⟨by first | rfl | (simp [errW_none, errW_some] <;> rfl) | (simp [*, errW_none, errW_some] <;> rfl), by repeat (first | (with_reducible first | exact HB.out | apply bm | apply bj | apply bn | refine bi ?_ bF.out) | exact HB.out)⟩
               ·
                replace c50 := Bool.eq_false_iff.mpr c50
                subst c50
                have H1 : (some ((rd_T53 bA bB).f1, true)) = some (r1, r2) := by rw [if_neg (show ¬ (false = true) by decide)] at H; exact H
                clear H
                have H := H1
                clear H1
                simp only [Option.some.injEq, Prod.mk.injEq] at H
                obtain ⟨rfl, rfl⟩ := H
                have hcz52_0 : wc.cell? ⟨bC, 0, none⟩ = some (.slice bI bA.length bJ) := (bo bz.out 0).trans rfl
                have hcz52_1 : wc.cell? ⟨bC, 1, none⟩ = some (.slice bG bD.length bH) := (bo bz.out 1).trans rfl
                have hcz52_2 : wc.cell? ⟨bC, 2, none⟩ = some (.int .i64 bE) := (bo bz.out 2).trans rfl
                have hfz52_0 := bk bz.out 0
                have hfz52_1 := bk bz.out 1
                have hfz52_2 := bk bz.out 2
                have p261 : 0 ≤ (bB : Int) := of_decide_eq_true (by first | (with_reducible assumption) | assumption)
                have q261 : bB < (bA.length : Int) := of_decide_eq_true (by first | (with_reducible assumption) | assumption)
                obtain ⟨ad261, A261_3, c261_3, e261, hx261_0, hx261_1, hx261_2, hx261_3, hl261_3, hi261_3⟩ := at_T53 bK.out bB p261 q261
                (try rw [← Nbq49.out] at hx261_2)
                cases e261
                replace hx261_0 := (HB.out.cell (World.block_lt_of_cell? w _ hx261_0)).trans hx261_0
                replace hx261_1 := (HB.out.cell (World.block_lt_of_cell? w _ hx261_1)).trans hx261_1
                replace hx261_2 := (HB.out.cell (World.block_lt_of_cell? w _ hx261_2)).trans hx261_2
                replace hx261_3 := (HB.out.cell (World.block_lt_of_cell? w _ hx261_3)).trans hx261_3
                have HR261_3 := bu hi261_3
                have HC261_3 := bu hl261_3
                clear hi261_3 hl261_3
                replace p261 := eq_true p261
                replace q261 := eq_true q261
                have p262 : 0 ≤ (bB : Int) := of_decide_eq_true (by first | (with_reducible assumption) | assumption)
                have q262 : bB < (bA.length : Int) := of_decide_eq_true (by first | (with_reducible assumption) | assumption)
                obtain ⟨ad262, A262_3, c262_3, e262, hx262_0, hx262_1, hx262_2, hx262_3, hl262_3, hi262_3⟩ := at_T53 bK.out bB p262 q262
                (try rw [← Nbq49.out] at hx262_2)
                obtain rfl : ad261 = ad262 := (by injection e262)
                replace hx262_0 := (HB.out.cell (World.block_lt_of_cell? w _ hx262_0)).trans hx262_0
                replace hx262_1 := (HB.out.cell (World.block_lt_of_cell? w _ hx262_1)).trans hx262_1
                replace hx262_2 := (HB.out.cell (World.block_lt_of_cell? w _ hx262_2)).trans hx262_2
                replace hx262_3 := (HB.out.cell (World.block_lt_of_cell? w _ hx262_3)).trans hx262_3
                have HR262_3 := bu hi262_3
                have HC262_3 := bu hl262_3
                clear hi262_3 hl262_3
                replace p262 := eq_true p262
                replace q262 := eq_true q262
                have ea_ := Option.some.inj (hx261_3.symm.trans hx262_3)
                injection ea_ with ea_ en_ ec_
                subst ea_
                subst ec_
                clear en_
                go_wp2
                go_ret2
                exact ⟨by first | rfl | (simp [errW_none, errW_some] <;> rfl) | (simp [*, errW_none, errW_some] <;> rfl), by repeat (first | (with_reducible first | exact HB.out | apply bm | apply bj | apply bn | refine bi ?_ bF.out) | exact HB.out)⟩
              ·
               rw [if_neg c48] at H
               exact absurd H (by simp)
             ·
              rw [if_neg c47] at H
              exact absurd H (by simp)

/-! ### vars_texts_1: function 65 -/
def vars_texts_1.f (a0 : ByteArray) : Option (Bool) := if (a0.size : Int) > 65536 then (some true) else ((strings_IndexByte.f a0 0).bind fun t263 => (some (decide (t263 ≥ 0))))
set_option maxHeartbeats 8000000 in
set_option maxRecDepth 100000 in
theorem vars_texts_1.calls (a0 : ByteArray) (r : Bool) (w : World) (h : vars_texts_1.f a0 = some r) :
  Calls Tryd.prog 65 #[.string a0] w fun e w' => e = .returned (.bool r) ∧ Drawn0 w w' := by
 have H : (if (a0.size : Int) > 65536 then (some true) else ((strings_IndexByte.f a0 0).bind fun t263 => (some (decide (t263 ≥ 0))))) = some r := h
 clear h
 by_cases c2 : (a0.size : Int) > 65536
 ·
  rw [if_pos c2] at H
  have c2b0 : decide (65536 < (a0.size : Int)) = true := decide_eq_true c2
  have c2b1 : decide (65536 < a0.size) = true := decide_eq_true (by omega)
  clear c2
  obtain rfl := Option.some.inj H
  go_enter Tryd.func65, Tryd.ntmps65
  go_wp2
  go_ret
  exact ⟨by first | rfl | (simp; done) | (simp [*]; done), by repeat (first | exact Drawn0.refl _ | apply Drawn0.step)⟩
 ·
  rw [if_neg c2] at H
  have c2b0 : decide (65536 < (a0.size : Int)) = false := decide_eq_false c2
  have c2b1 : decide (65536 < a0.size) = false := decide_eq_false (by omega)
  clear c2
  replace H := Option.bind_eq_some_iff.mp H
  obtain ⟨t263, A30, H⟩ := H
  replace H : (some (decide (t263 ≥ 0))) = some r := H
  have A3 := bu A30
  clear A30
  obtain rfl := Option.some.inj H
  go_enter Tryd.func65, Tryd.ntmps65
  go_wp2_with (first | (go_at_call 66; (with_reducible refine (strings_IndexByte.calls a0 0 t263 _ A3.out).mono ?_); rintro e w' ⟨rfl, ⟨nd, rfl⟩⟩))
  go_ret
  exact ⟨by first | rfl | (simp; done) | (simp [*]; done), by repeat (first | exact Drawn0.refl _ | apply Drawn0.step)⟩

end Go.Proofs.YtpljochiegallaaDoor.XVB
