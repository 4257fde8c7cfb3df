-- WRITTEN BY xprint.py, a program of this session (over the kit's print)
import Derived.Test.YtpljochiegallaaDoorBXVBx0
import Derived.Test.YtpljochiegallaaDoorBXVBx1
import Derived.Test.YtpljochiegallaaDoorBXVBx2
import Derived.Test.YtpljochiegallaaDoorBXVBx3
namespace Go.Proofs.YtpljochiegallaaDoor.XVB
open Go.RowKit Go.Proofs.YtpljochiegallaaDoorW.PrintWords Go.Proofs.YtpljochiegallaaDoorW.PrintLast Go.Proofs.YtpljochiegallaaDoorW.PrintMore
attribute [local go_sem] max2_int min2_int max_two min_two max_three min_three max_four min_four   -- for this text's walks alone
set_option linter.unusedVariables false
set_option linter.unusedSimpArgs false

/-! ### vars_Text: function 14 -/
def vars_Text.j0 : Nat → Int → Bool → List (S53) → List ByteArray → Int → Option (ByteArray × Bool)
  | 0, _, _, _, _, _ => none
  | k + 1, x6, x42, x168000, x168001, x168002 => if x42 = true then (some ((⟨#[]⟩ : ByteArray), false)) else (if 0 ≤ x6 then (if x6 < (x168000.length : Int) then (if (rd_T53 x168000 x6).f2 = true then (if 0 ≤ (mn (((rd_T53 x168000 x6).f3).length : Int) 1) then (if (mn (((rd_T53 x168000 x6).f3).length : Int) 1) ≤ (((rd_T53 x168000 x6).f3).length : Int) then ((strings_Join.f (((rd_T53 x168000 x6).f3).take ((mn (((rd_T53 x168000 x6).f3).length : Int) 1) : Int).toNat) (⟨#[]⟩ : ByteArray)).bind fun t180 => (some (t180, true))) else (none)) else (none)) else (some ((rd_T53 x168000 x6).f1, true))) else (none)) else (none))
def vars_Text.f (k : Nat) (l0_0 : List (S53)) (l0_1 : List ByteArray) (a0_2 : Int) (a1 : ByteArray) : Option (ByteArray × Bool) := if a1.toList = ([35] : List UInt8) then ((number_Print.f (l0_1.length : Int)).bind fun t168 => (some (t168, true))) else (if a1.toList = ([63] : List UInt8) then ((number_Print.f a0_2).bind fun t169 => (some (t169, true))) else (if a1.toList = ([64] : List UInt8) then ((strings_Join.f l0_1 (⟨#[32]⟩ : ByteArray)).bind fun t170 => (some (t170, true))) else (if a1.toList = ([42] : List UInt8) then ((strings_Join.f l0_1 (⟨#[32]⟩ : ByteArray)).bind fun t171 => (some (t171, true))) else ((octets_Digits.f a1).bind fun t172 => (if t172 = true then ((vars_Store_argument.f l0_0 l0_1 a0_2 a1).bind fun bt173 => (some (bt173.1, bt173.2))) else ((vars_Store_find.f l0_0 l0_1 a0_2 a1).bind fun t175 => (if t175 < 0 then (vars_Text.j0 k t175 true l0_0 l0_1 a0_2) else ((octets_Name.f a1).bind fun t176 => (vars_Text.j0 k t175 (!t176) l0_0 l0_1 a0_2)))))))))
set_option maxHeartbeats 8000000 in
set_option maxRecDepth 100000 in
theorem vars_Text.calls (k : Nat) (bL : Option Addr) (bJ : Nat) (bA : List (S53)) (bH : Option Addr) (bI : Nat) (bD : List ByteArray) (bF : Int) (a1 : ByteArray) (r1 : ByteArray) (r2 : Bool) (w : World) (hr0_0 : Kd.C k53 w bL bA.length bA) (hc0_0 : bA.length ≤ bJ) (hr0_1 : Kd.C Kd.string w bH bD.length bD) (hc0_1 : bD.length ≤ bI) (h : vars_Text.f k bA bD bF a1 = some (r1, r2)) :
  Calls Tryd.prog 14 #[.agg #[.slice bL bA.length bJ, .slice bH bD.length bI, .int .i64 bF], .string a1] w fun e w' => e = .returned (.tuple #[.string r1, .bool r2]) ∧ Below w.heap.size w w' := by
 have hu27 := Tryd.underlying27
 have hu53 := Tryd.underlying53
 have HR0_0 := bu hr0_0
 have HC0_0 := bu hc0_0
 clear hr0_0 hc0_0
 have HR0_1 := bu hr0_1
 have HC0_1 := bu hc0_1
 clear hr0_1 hc0_1
 have HB := bu (bw w.heap.size w)
 have H : (if a1.toList = ([35] : List UInt8) then ((number_Print.f (bD.length : Int)).bind fun t168 => (some (t168, true))) else (if a1.toList = ([63] : List UInt8) then ((number_Print.f bF).bind fun t169 => (some (t169, true))) else (if a1.toList = ([64] : List UInt8) then ((strings_Join.f bD (⟨#[32]⟩ : ByteArray)).bind fun t170 => (some (t170, true))) else (if a1.toList = ([42] : List UInt8) then ((strings_Join.f bD (⟨#[32]⟩ : ByteArray)).bind fun t171 => (some (t171, true))) else ((octets_Digits.f a1).bind fun t172 => (if t172 = true then ((vars_Store_argument.f bA bD bF a1).bind fun bU => (some (bU.1, bU.2))) else ((vars_Store_find.f bA bD bF a1).bind fun bC => (if bC < 0 then (vars_Text.j0 k bC true bA bD bF) else ((octets_Name.f a1).bind fun t176 => (vars_Text.j0 k bC (!t176) bA bD bF)))))))))) = some (r1, r2) := h
 clear h
 by_cases c3 : a1.toList = ([35] : List UInt8)
 ·
  rw [if_pos c3] at H
  have c3b0 : (a1.toList == ([35] : List UInt8)) = true := beq_iff_eq.mpr c3
  have c3b1 : (a1.toList != ([35] : List UInt8)) = false := bne_eq_false_iff_eq.mpr c3
  clear c3
  replace H := Option.bind_eq_some_iff.mp H
  obtain ⟨t168, A40, H⟩ := H
  replace H : (some (t168, true)) = some (r1, r2) := H
  have A4 := bu A40
  clear A40
  simp only [Option.some.injEq, Prod.mk.injEq] at H
  obtain ⟨rfl, rfl⟩ := H
  go_enter Tryd.func14, Tryd.ntmps14
  go_wp2_with (first | ((with_reducible refine gate_dst (N := 2) rfl ?_); refine box_event ?hg (N := 2) ?hd (cs := #[.slice bL bA.length bJ, .slice bH bD.length bI, .int .i64 bF]) (t := 27) ?hr ?_; (case hd => rfl); (case hg => rfl); (case hr => first | (go_simp; done) | (go_simp; rfl)); intro bB hg w5 hbox hb; have bN := bu (below_step (by repeat (first | (with_reducible first | exact HB.out | apply bm | apply bj | apply bn) | exact HB.out)) hb); have bO := bu (hbox); have bV := bu ((by rw [hg]; exact (bs (by repeat (first | (with_reducible first | exact HB.out | apply bm | apply bj | apply bn) | exact HB.out))) : w.heap.size ≤ bB)); have n3_ := bu ((by rw [hg]; exact (bs (by repeat (first | (with_reducible first | exact HB.out | apply bm | apply bj | apply bn) | exact HB.out))) : w.heap.size ≤ bB)); clear HB; have HB := bN; have bz := bO; have GW167 := bV; have bG := n3_; clear bN bO bV n3_; clear hb hbox hg; have hcz6_0 : w5.cell? ⟨bB, 0, none⟩ = some (.slice bL bA.length bJ) := (bo bz.out 0).trans rfl; have hcz6_1 : w5.cell? ⟨bB, 1, none⟩ = some (.slice bH bD.length bI) := (bo bz.out 1).trans rfl; have hcz6_2 : w5.cell? ⟨bB, 2, none⟩ = some (.int .i64 bF) := (bo bz.out 2).trans rfl; have hfz6_0 := bk bz.out 0; have hfz6_1 := bk bz.out 1; have hfz6_2 := bk bz.out 2) | ((with_reducible refine bv (f := 29) rfl ?_); refine goesL_ (some 14) rfl rfl Tryd.func29 (by kernel_rfl) rfl #[.int .i64 (bD.length : Int)] rfl (by (try simp only [List.map_toArray, List.map_cons, List.map_nil]); first | done | rfl | (simp only [List.length_drop, List.length_take]; rfl)) ?_; (with_reducible refine (number_Print.calls (bD.length : Int) t168 _ A4.out).mono ?_); rintro e w7 ⟨rfl, hb⟩; refine ⟨_, rfl, ?_⟩; have bN := bu (bl (g := bB) (o := .cells #[.slice bL bA.length bJ, .slice bH bD.length bI, .int .i64 bF] 27 (0, 0)) (by (with_reducible repeat (first | refine a4 ?_ _ | refine bh ?_ | refine a5 ?_ _)); exact bz.out) hb); have bO := bu (below_step (by repeat (first | (with_reducible first | exact HB.out | apply bm | apply bj | apply bn | refine bi ?_ bG.out) | exact HB.out)) hb); clear bz; clear HB; have bz := bN; have HB := bO; clear bN bO; (try clear hb); (try clear hb2); (try clear hk); (try clear hi)))
  go_ret2
  exact ⟨by first | rfl | (simp [errW_none, errW_some] <;> rfl) | (simp [*, errW_none, errW_some] <;> rfl), by repeat (first | (with_reducible first | exact HB.out | apply bm | apply bj | apply bn | refine bi ?_ bG.out) | exact HB.out)⟩
 ·
  rw [if_neg c3] at H
  have c3b0 : (a1.toList == ([35] : List UInt8)) = false := beq_eq_false_iff_ne.mpr c3
  have c3b1 : (a1.toList != ([35] : List UInt8)) = true := bne_iff_ne.mpr c3
  by_cases c8 : a1.toList = ([63] : List UInt8)
  ·
   rw [if_pos c8] at H
   have c8b0 : (a1.toList == ([63] : List UInt8)) = true := beq_iff_eq.mpr c8
   have c8b1 : (a1.toList != ([63] : List UInt8)) = false := bne_eq_false_iff_eq.mpr c8
   clear c8
   replace H := Option.bind_eq_some_iff.mp H
   obtain ⟨t169, A90, H⟩ := H
   replace H : (some (t169, true)) = some (r1, r2) := H
   have A9 := bu A90
   clear A90
   simp only [Option.some.injEq, Prod.mk.injEq] at H
   obtain ⟨rfl, rfl⟩ := H
   go_enter Tryd.func14, Tryd.ntmps14
   go_wp2_with (first | ((with_reducible refine gate_dst (N := 2) rfl ?_); refine box_event ?hg (N := 2) ?hd (cs := #[.slice bL bA.length bJ, .slice bH bD.length bI, .int .i64 bF]) (t := 27) ?hr ?_; (case hd => rfl); (case hg => rfl); (case hr => first | (go_simp; done) | (go_simp; rfl)); intro bB hg w10 hbox hb; have bN := bu (below_step (by repeat (first | (with_reducible first | exact HB.out | apply bm | apply bj | apply bn) | exact HB.out)) hb); have bO := bu (hbox); have bV := bu ((by rw [hg]; exact (bs (by repeat (first | (with_reducible first | exact HB.out | apply bm | apply bj | apply bn) | exact HB.out))) : w.heap.size ≤ bB)); have n3_ := bu ((by rw [hg]; exact (bs (by repeat (first | (with_reducible first | exact HB.out | apply bm | apply bj | apply bn) | exact HB.out))) : w.heap.size ≤ bB)); clear HB; have HB := bN; have bz := bO; have GW167 := bV; have bG := n3_; clear bN bO bV n3_; clear hb hbox hg; have hcz11_0 : w10.cell? ⟨bB, 0, none⟩ = some (.slice bL bA.length bJ) := (bo bz.out 0).trans rfl; have hcz11_1 : w10.cell? ⟨bB, 1, none⟩ = some (.slice bH bD.length bI) := (bo bz.out 1).trans rfl; have hcz11_2 : w10.cell? ⟨bB, 2, none⟩ = some (.int .i64 bF) := (bo bz.out 2).trans rfl; have hfz11_0 := bk bz.out 0; have hfz11_1 := bk bz.out 1; have hfz11_2 := bk bz.out 2) | ((with_reducible refine bv (f := 29) rfl ?_); refine goesL_ (some 19) rfl rfl Tryd.func29 (by kernel_rfl) rfl #[.int .i64 bF] rfl (by (try simp only [List.map_toArray, List.map_cons, List.map_nil]); first | done | rfl | (simp only [List.length_drop, List.length_take]; rfl)) ?_; (with_reducible refine (number_Print.calls bF t169 _ A9.out).mono ?_); rintro e w12 ⟨rfl, hb⟩; refine ⟨_, rfl, ?_⟩; have bN := bu (bl (g := bB) (o := .cells #[.slice bL bA.length bJ, .slice bH bD.length bI, .int .i64 bF] 27 (0, 0)) (by (with_reducible repeat (first | refine a4 ?_ _ | refine bh ?_ | refine a5 ?_ _)); exact bz.out) hb); have bO := bu (below_step (by repeat (first | (with_reducible first | exact HB.out | apply bm | apply bj | apply bn | refine bi ?_ bG.out) | exact HB.out)) hb); clear bz; clear HB; have bz := bN; have HB := bO; clear bN bO; (try clear hb); (try clear hb2); (try clear hk); (try clear hi)))
   go_ret2
   exact ⟨by first | rfl | (simp [errW_none, errW_some] <;> rfl) | (simp [*, errW_none, errW_some] <;> rfl), by repeat (first | (with_reducible first | exact HB.out | apply bm | apply bj | apply bn | refine bi ?_ bG.out) | exact HB.out)⟩
  ·
   rw [if_neg c8] at H
   have c8b0 : (a1.toList == ([63] : List UInt8)) = false := beq_eq_false_iff_ne.mpr c8
   have c8b1 : (a1.toList != ([63] : List UInt8)) = true := bne_iff_ne.mpr c8
   by_cases c13 : a1.toList = ([64] : List UInt8)
   ·
    rw [if_pos c13] at H
    have c13b0 : (a1.toList == ([64] : List UInt8)) = true := beq_iff_eq.mpr c13
    have c13b1 : (a1.toList != ([64] : List UInt8)) = false := bne_eq_false_iff_eq.mpr c13
    clear c13
    replace H := Option.bind_eq_some_iff.mp H
    obtain ⟨t170, A140, H⟩ := H
    replace H : (some (t170, true)) = some (r1, r2) := H
    have A14 := bu A140
    clear A140
    simp only [Option.some.injEq, Prod.mk.injEq] at H
    obtain ⟨rfl, rfl⟩ := H
    go_enter Tryd.func14, Tryd.ntmps14
    go_wp2_with (first | ((with_reducible refine gate_dst (N := 2) rfl ?_); refine box_event ?hg (N := 2) ?hd (cs := #[.slice bL bA.length bJ, .slice bH bD.length bI, .int .i64 bF]) (t := 27) ?hr ?_; (case hd => rfl); (case hg => rfl); (case hr => first | (go_simp; done) | (go_simp; rfl)); intro bB hg w15 hbox hb; have bN := bu (below_step (by repeat (first | (with_reducible first | exact HB.out | apply bm | apply bj | apply bn) | exact HB.out)) hb); have bO := bu (hbox); have bV := bu ((by rw [hg]; exact (bs (by repeat (first | (with_reducible first | exact HB.out | apply bm | apply bj | apply bn) | exact HB.out))) : w.heap.size ≤ bB)); have n3_ := bu ((by rw [hg]; exact (bs (by repeat (first | (with_reducible first | exact HB.out | apply bm | apply bj | apply bn) | exact HB.out))) : w.heap.size ≤ bB)); clear HB; have HB := bN; have bz := bO; have GW167 := bV; have bG := n3_; clear bN bO bV n3_; clear hb hbox hg; have hcz16_0 : w15.cell? ⟨bB, 0, none⟩ = some (.slice bL bA.length bJ) := (bo bz.out 0).trans rfl; have hcz16_1 : w15.cell? ⟨bB, 1, none⟩ = some (.slice bH bD.length bI) := (bo bz.out 1).trans rfl; have hcz16_2 : w15.cell? ⟨bB, 2, none⟩ = some (.int .i64 bF) := (bo bz.out 2).trans rfl; have hfz16_0 := bk bz.out 0; have hfz16_1 := bk bz.out 1; have hfz16_2 := bk bz.out 2) | ((with_reducible refine bv (f := 30) rfl ?_); refine goesL_ (some 25) rfl rfl Tryd.func30 (by kernel_rfl) rfl #[.slice bH bD.length bI, .string (⟨#[32]⟩ : ByteArray)] rfl (by (try simp only [List.map_toArray, List.map_cons, List.map_nil]); first | done | rfl | (simp only [List.length_drop, List.length_take]; rfl)) ?_; (with_reducible refine (strings_Join.calls _ _ bD (⟨#[32]⟩ : ByteArray) t170 _ ?bR ?bS A14.out).mono ?_); (case bR => repeat (first | exact (br HR0_1.out HB.out) | (with_reducible refine bp ?_ _) | (with_reducible refine bq ?_ _) | (with_reducible refine Kd.C_drew ?_))); (case bS => exact HC0_1.out); rintro e w17 ⟨rfl, hb⟩; refine ⟨_, rfl, ?_⟩; have bN := bu (bl (g := bB) (o := .cells #[.slice bL bA.length bJ, .slice bH bD.length bI, .int .i64 bF] 27 (0, 0)) (by (with_reducible repeat (first | refine a4 ?_ _ | refine bh ?_ | refine a5 ?_ _)); exact bz.out) hb); have bO := bu (below_step (by repeat (first | (with_reducible first | exact HB.out | apply bm | apply bj | apply bn | refine bi ?_ bG.out) | exact HB.out)) hb); clear bz; clear HB; have bz := bN; have HB := bO; clear bN bO; (try clear hb); (try clear hb2); (try clear hk); (try clear hi)))
    go_ret2
    exact ⟨by first | rfl | (simp [errW_none, errW_some] <;> rfl) | (simp [*, errW_none, errW_some] <;> rfl), by repeat (first | (with_reducible first | exact HB.out | apply bm | apply bj | apply bn | refine bi ?_ bG.out) | exact HB.out)⟩
   ·
    rw [if_neg c13] at H
    have c13b0 : (a1.toList == ([64] : List UInt8)) = false := beq_eq_false_iff_ne.mpr c13
    have c13b1 : (a1.toList != ([64] : List UInt8)) = true := bne_iff_ne.mpr c13
    by_cases c18 : a1.toList = ([42] : List UInt8)
    ·
     rw [if_pos c18] at H
     have c18b0 : (a1.toList == ([42] : List UInt8)) = true := beq_iff_eq.mpr c18
     have c18b1 : (a1.toList != ([42] : List UInt8)) = false := bne_eq_false_iff_eq.mpr c18
     clear c18
     replace H := Option.bind_eq_some_iff.mp H
     obtain ⟨t171, A190, H⟩ := H
     replace H : (some (t171, true)) = some (r1, r2) := H
     have A19 := bu A190
     clear A190
     simp only [Option.some.injEq, Prod.mk.injEq] at H
     obtain ⟨rfl, rfl⟩ := H
     go_enter Tryd.func14, Tryd.ntmps14
     go_wp2_with (first | ((with_reducible refine gate_dst (N := 2) rfl ?_); refine box_event ?hg (N := 2) ?hd (cs := #[.slice bL bA.length bJ, .slice bH bD.length bI, .int .i64 bF]) (t := 27) ?hr ?_; (case hd => rfl); (case hg => rfl); (case hr => first | (go_simp; done) | (go_simp; rfl)); intro bB hg w20 hbox hb; have bN := bu (below_step (by repeat (first | (with_reducible first | exact HB.out | apply bm | apply bj | apply bn) | exact HB.out)) hb); have bO := bu (hbox); have bV := bu ((by rw [hg]; exact (bs (by repeat (first | (with_reducible first | exact HB.out | apply bm | apply bj | apply bn) | exact HB.out))) : w.heap.size ≤ bB)); have n3_ := bu ((by rw [hg]; exact (bs (by repeat (first | (with_reducible first | exact HB.out | apply bm | apply bj | apply bn) | exact HB.out))) : w.heap.size ≤ bB)); clear HB; have HB := bN; have bz := bO; have GW167 := bV; have bG := n3_; clear bN bO bV n3_; clear hb hbox hg; have hcz21_0 : w20.cell? ⟨bB, 0, none⟩ = some (.slice bL bA.length bJ) := (bo bz.out 0).trans rfl; have hcz21_1 : w20.cell? ⟨bB, 1, none⟩ = some (.slice bH bD.length bI) := (bo bz.out 1).trans rfl; have hcz21_2 : w20.cell? ⟨bB, 2, none⟩ = some (.int .i64 bF) := (bo bz.out 2).trans rfl; have hfz21_0 := bk bz.out 0; have hfz21_1 := bk bz.out 1; have hfz21_2 := bk bz.out 2) | ((with_reducible refine bv (f := 30) rfl ?_); refine goesL_ (some 25) rfl rfl Tryd.func30 (by kernel_rfl) rfl #[.slice bH bD.length bI, .string (⟨#[32]⟩ : ByteArray)] rfl (by (try simp only [List.map_toArray, List.map_cons, List.map_nil]); first | done | rfl | (simp only [List.length_drop, List.length_take]; rfl)) ?_; (with_reducible refine (strings_Join.calls _ _ bD (⟨#[32]⟩ : ByteArray) t171 _ ?bR ?bS A19.out).mono ?_); (case bR => repeat (first | exact (br HR0_1.out HB.out) | (with_reducible refine bp ?_ _) | (with_reducible refine bq ?_ _) | (with_reducible refine Kd.C_drew ?_))); (case bS => exact HC0_1.out); rintro e w22 ⟨rfl, hb⟩; refine ⟨_, rfl, ?_⟩; have bN := bu (bl (g := bB) (o := .cells #[.slice bL bA.length bJ, .slice bH bD.length bI, .int .i64 bF] 27 (0, 0)) (by (with_reducible repeat (first | refine a4 ?_ _ | refine bh ?_ | refine a5 ?_ _)); exact bz.out) hb); have bO := bu (below_step (by repeat (first | (with_reducible first | exact HB.out | apply bm | apply bj | apply bn | refine bi ?_ bG.out) | exact HB.out)) hb); clear bz; clear HB; have bz := bN; have HB := bO; clear bN bO; (try clear hb); (try clear hb2); (try clear hk); (try clear hi)))
     go_ret2
     exact ⟨by first | rfl | (simp [errW_none, errW_some] <;> rfl) | (simp [*, errW_none, errW_some] <;> rfl), by repeat (first | (with_reducible first | exact HB.out | apply bm | apply bj | apply bn | refine bi ?_ bG.out) | exact HB.out)⟩
    ·
     rw [if_neg c18] at H
     have c18b0 : (a1.toList == ([42] : List UInt8)) = false := beq_eq_false_iff_ne.mpr c18
     have c18b1 : (a1.toList != ([42] : List UInt8)) = true := bne_iff_ne.mpr c18
     replace H := Option.bind_eq_some_iff.mp H
     obtain ⟨t172, A230, H⟩ := H
     replace H : (if t172 = true then ((vars_Store_argument.f bA bD bF a1).bind fun bU => (some (bU.1, bU.2))) else ((vars_Store_find.f bA bD bF a1).bind fun bC => (if bC < 0 then (vars_Text.j0 k bC true bA bD bF) else ((octets_Name.f a1).bind fun t176 => (vars_Text.j0 k bC (!t176) bA bD bF))))) = some (r1, r2) := H
     have A23 := bu A230
     clear A230
     by_cases c24 : t172 = true
     ·
      subst c24
      have H1 : ((vars_Store_argument.f bA bD bF a1).bind fun bU => (some (bU.1, bU.2))) = some (r1, r2) := by rw [if_pos rfl] at H; exact H
      clear H
      have H := H1
      clear H1
      replace H := Option.bind_eq_some_iff.mp H
      obtain ⟨⟨t173, t174⟩, A250, H⟩ := H
      replace H : (some (t173, t174)) = some (r1, r2) := H
      have A25 := bu A250
      clear A250
      simp only [Option.some.injEq, Prod.mk.injEq] at H
      obtain ⟨rfl, rfl⟩ := H
      go_enter Tryd.func14, Tryd.ntmps14
      go_wp2_with (first | ((with_reducible refine gate_dst (N := 2) rfl ?_); refine box_event ?hg (N := 2) ?hd (cs := #[.slice bL bA.length bJ, .slice bH bD.length bI, .int .i64 bF]) (t := 27) ?hr ?_; (case hd => rfl); (case hg => rfl); (case hr => first | (go_simp; done) | (go_simp; rfl)); intro bB hg w26 hbox hb; have bN := bu (below_step (by repeat (first | (with_reducible first | exact HB.out | apply bm | apply bj | apply bn) | exact HB.out)) hb); have bO := bu (hbox); have bV := bu ((by rw [hg]; exact (bs (by repeat (first | (with_reducible first | exact HB.out | apply bm | apply bj | apply bn) | exact HB.out))) : w.heap.size ≤ bB)); have n3_ := bu ((by rw [hg]; exact (bs (by repeat (first | (with_reducible first | exact HB.out | apply bm | apply bj | apply bn) | exact HB.out))) : w.heap.size ≤ bB)); clear HB; have HB := bN; have bz := bO; have GW167 := bV; have bG := n3_; clear bN bO bV n3_; clear hb hbox hg) | ((with_reducible refine bv (f := 31) rfl ?_); refine goesL_ (some 27) rfl rfl Tryd.func31 (by kernel_rfl) rfl #[.string a1] rfl (by (try simp only [List.map_toArray, List.map_cons, List.map_nil]); first | done | rfl | (simp only [List.length_drop, List.length_take]; rfl)) ?_; (with_reducible refine (octets_Digits.calls a1 true _ A23.out).mono ?_); rintro e w27 ⟨rfl, hb⟩; refine ⟨_, rfl, ?_⟩; have bN := bu (bl (g := bB) (o := .cells #[.slice bL bA.length bJ, .slice bH bD.length bI, .int .i64 bF] 27 (0, 0)) (by (with_reducible repeat (first | refine a4 ?_ _ | refine bh ?_ | refine a5 ?_ _)); exact bz.out) hb); have bO := bu (below_step (by repeat (first | (with_reducible first | exact HB.out | apply bm | apply bj | apply bn | refine bi ?_ bG.out) | exact HB.out)) hb); clear bz; clear HB; have bz := bN; have HB := bO; clear bN bO; (try clear hb); (try clear hb2); (try clear hk); (try clear hi); have hcz28_0 : w27.cell? ⟨bB, 0, none⟩ = some (.slice bL bA.length bJ) := (bo bz.out 0).trans rfl; have hcz28_1 : w27.cell? ⟨bB, 1, none⟩ = some (.slice bH bD.length bI) := (bo bz.out 1).trans rfl; have hcz28_2 : w27.cell? ⟨bB, 2, none⟩ = some (.int .i64 bF) := (bo bz.out 2).trans rfl; have hfz28_0 := bk bz.out 0; have hfz28_1 := bk bz.out 1; have hfz28_2 := bk bz.out 2) | ((with_reducible refine bv (f := 32) rfl ?_); refine goesL_ (some 30) rfl rfl Tryd.func32 (by kernel_rfl) rfl #[.agg #[.slice bL bA.length bJ, .slice bH bD.length bI, .int .i64 bF], .string a1] rfl (by (try simp only [List.map_toArray, List.map_cons, List.map_nil]); first | done | rfl | (simp only [List.length_drop, List.length_take]; rfl)) ?_; (with_reducible refine (vars_Store_argument.calls _ _ bA _ _ bD bF a1 t173 t174 _ ?bR ?bS ?side3 ?side4 A25.out).mono ?_); (case bR => repeat (first | exact (br HR0_0.out HB.out) | (with_reducible refine bp ?_ _) | (with_reducible refine bq ?_ _) | (with_reducible refine Kd.C_drew ?_))); (case bS => exact HC0_0.out); (case side3 => repeat (first | exact (br HR0_1.out HB.out) | (with_reducible refine bp ?_ _) | (with_reducible refine bq ?_ _) | (with_reducible refine Kd.C_drew ?_))); (case side4 => exact HC0_1.out); rintro e w29 ⟨rfl, hb⟩; refine ⟨_, rfl, ?_⟩; have bN := bu (bl (g := bB) (o := .cells #[.slice bL bA.length bJ, .slice bH bD.length bI, .int .i64 bF] 27 (0, 0)) (by (with_reducible repeat (first | refine a4 ?_ _ | refine bh ?_ | refine a5 ?_ _)); exact bz.out) hb); have bO := bu (below_step (by repeat (first | (with_reducible first | exact HB.out | apply bm | apply bj | apply bn | refine bi ?_ bG.out) | exact HB.out)) hb); clear bz; clear HB; have bz := bN; have HB := bO; clear bN bO; (try clear hb); (try clear hb2); (try clear hk); (try clear hi)))
      go_ret2
      exact ⟨by first | rfl | (simp [errW_none, errW_some] <;> rfl) | (simp [*, errW_none, errW_some] <;> rfl), by repeat (first | (with_reducible first | exact HB.out | apply bm | apply bj | apply bn | refine bi ?_ bG.out) | exact HB.out)⟩
     ·
      replace c24 := Bool.eq_false_iff.mpr c24
      subst c24
      have H1 : ((vars_Store_find.f bA bD bF a1).bind fun bC => (if bC < 0 then (vars_Text.j0 k bC true bA bD bF) else ((octets_Name.f a1).bind fun t176 => (vars_Text.j0 k bC (!t176) bA bD bF)))) = some (r1, r2) := by rw [if_neg (show ¬ (false = true) by decide)] at H; exact H
      clear H
      have H := H1
      clear H1
      replace H := Option.bind_eq_some_iff.mp H
      obtain ⟨bC, A300, H⟩ := H
      replace H : (if bC < 0 then (vars_Text.j0 k bC true bA bD bF) else ((octets_Name.f a1).bind fun t176 => (vars_Text.j0 k bC (!t176) bA bD bF))) = some (r1, r2) := H
      have A30 := bu A300
      clear A300
      have HC31 := bu H
      clear H
      go_enter Tryd.func14, Tryd.ntmps14
      go_upto_region 12 with (first | ((with_reducible refine gate_dst (N := 2) rfl ?_); refine box_event ?hg (N := 2) ?hd (cs := #[.slice bL bA.length bJ, .slice bH bD.length bI, .int .i64 bF]) (t := 27) ?hr ?_; (case hd => rfl); (case hg => rfl); (case hr => first | (go_simp; done) | (go_simp; rfl)); intro bB hg w32 hbox hb; have bN := bu (below_step (by repeat (first | (with_reducible first | exact HB.out | apply bm | apply bj | apply bn) | exact HB.out)) hb); have bO := bu (hbox); have bV := bu ((by rw [hg]; exact (bs (by repeat (first | (with_reducible first | exact HB.out | apply bm | apply bj | apply bn) | exact HB.out))) : w.heap.size ≤ bB)); have n3_ := bu ((by rw [hg]; exact (bs (by repeat (first | (with_reducible first | exact HB.out | apply bm | apply bj | apply bn) | exact HB.out))) : w.heap.size ≤ bB)); clear HB; have HB := bN; have bz := bO; have GW167 := bV; have bG := n3_; clear bN bO bV n3_; clear hb hbox hg) | ((with_reducible refine bv (f := 31) rfl ?_); refine goesL_ (some 27) rfl rfl Tryd.func31 (by kernel_rfl) rfl #[.string a1] rfl (by (try simp only [List.map_toArray, List.map_cons, List.map_nil]); first | done | rfl | (simp only [List.length_drop, List.length_take]; rfl)) ?_; (with_reducible refine (octets_Digits.calls a1 false _ A23.out).mono ?_); rintro e w33 ⟨rfl, hb⟩; refine ⟨_, rfl, ?_⟩; have bN := bu (bl (g := bB) (o := .cells #[.slice bL bA.length bJ, .slice bH bD.length bI, .int .i64 bF] 27 (0, 0)) (by (with_reducible repeat (first | refine a4 ?_ _ | refine bh ?_ | refine a5 ?_ _)); exact bz.out) hb); have bO := bu (below_step (by repeat (first | (with_reducible first | exact HB.out | apply bm | apply bj | apply bn | refine bi ?_ bG.out) | exact HB.out)) hb); clear bz; clear HB; have bz := bN; have HB := bO; clear bN bO; (try clear hb); (try clear hb2); (try clear hk); (try clear hi); have hcz34_0 : w33.cell? ⟨bB, 0, none⟩ = some (.slice bL bA.length bJ) := (bo bz.out 0).trans rfl; have hcz34_1 : w33.cell? ⟨bB, 1, none⟩ = some (.slice bH bD.length bI) := (bo bz.out 1).trans rfl; have hcz34_2 : w33.cell? ⟨bB, 2, none⟩ = some (.int .i64 bF) := (bo bz.out 2).trans rfl; have hfz34_0 := bk bz.out 0; have hfz34_1 := bk bz.out 1; have hfz34_2 := bk bz.out 2) | ((with_reducible refine bv (f := 33) rfl ?_); refine goesL_ (some 35) rfl rfl Tryd.func33 (by kernel_rfl) rfl #[.agg #[.slice bL bA.length bJ, .slice bH bD.length bI, .int .i64 bF], .string a1] rfl (by (try simp only [List.map_toArray, List.map_cons, List.map_nil]); first | done | rfl | (simp only [List.length_drop, List.length_take]; rfl)) ?_; (with_reducible refine (vars_Store_find.calls _ _ bA _ _ bD bF a1 bC _ ?bR ?bS ?side3 ?side4 A30.out).mono ?_); (case bR => repeat (first | exact (br HR0_0.out HB.out) | (with_reducible refine bp ?_ _) | (with_reducible refine bq ?_ _) | (with_reducible refine Kd.C_drew ?_))); (case bS => exact HC0_0.out); (case side3 => repeat (first | exact (br HR0_1.out HB.out) | (with_reducible refine bp ?_ _) | (with_reducible refine bq ?_ _) | (with_reducible refine Kd.C_drew ?_))); (case side4 => exact HC0_1.out); rintro e w35 ⟨rfl, hb⟩; refine ⟨_, rfl, ?_⟩; have bN := bu (bl (g := bB) (o := .cells #[.slice bL bA.length bJ, .slice bH bD.length bI, .int .i64 bF] 27 (0, 0)) (by (with_reducible repeat (first | refine a4 ?_ _ | refine bh ?_ | refine a5 ?_ _)); exact bz.out) hb); have bO := bu (below_step (by repeat (first | (with_reducible first | exact HB.out | apply bm | apply bj | apply bn | refine bi ?_ bG.out) | exact HB.out)) hb); clear bz; clear HB; have bz := bN; have HB := bO; clear bN bO; (try clear hb); (try clear hb2); (try clear hk); (try clear hi)))
      (try simp only [Act.put, List.setIfInBounds_toArray, List.set_cons_zero, List.set_cons_succ])
      go_cut [42] (fun v42 wc => ∃ (kq : Nat) (x42_30 : Bool), v42 = .bool x42_30 ∧ Aside0 (vars_Text.j0 kq bC x42_30 bA bD bF = some (r1, r2)) ∧ Aside0 (kq ≤ k) ∧ Aside0 (wc.heap[bB]? = some (.cells #[(.slice bL bA.length bJ), (.slice bH bD.length bI), .int .i64 bF] 27 (0, 0))) ∧ Aside0 (Below w.heap.size w wc))
      case first =>
       have H := HC31.out
       clear HC31
       by_cases c36 : bC < 0
       ·
        rw [if_pos c36] at H
        have c36b0 : decide (bC < 0) = true := decide_eq_true c36
        clear c36
        (first | rw [c36b0] | (simp only [i64_w, i32_w]; rw [c36b0]) | skip)
        have H' := bu H
        clear H
        go_wp2
        go_meet
        case rel => exact ⟨_, (true), (by first | rfl | (simp; done) | (simp [*]; done)), H', ⟨by first | omega | exact Nat.le_refl _⟩, ⟨by (with_reducible repeat (first | refine a4 ?_ _ | refine bh ?_ | refine a5 ?_ _)); exact bz.out⟩, ⟨by repeat (first | (with_reducible first | exact HB.out | apply bm | apply bj | apply bn | refine bi ?_ bG.out) | exact HB.out)⟩⟩
       ·
        rw [if_neg c36] at H
        have c36b0 : decide (bC < 0) = false := decide_eq_false c36
        clear c36
        (first | rw [c36b0] | (simp only [i64_w, i32_w]; rw [c36b0]) | skip)
        replace H := Option.bind_eq_some_iff.mp H
        obtain ⟨t176, A370, H⟩ := H
        replace H : (vars_Text.j0 k bC (!t176) bA bD bF) = some (r1, r2) := H
        have A37 := bu A370
        clear A370
        have H' := bu H
        clear H
        go_wp2_with (first | (go_at_call 34; (with_reducible refine (octets_Name.calls a1 t176 _ A37.out).mono ?_); rintro e w38 ⟨rfl, hb⟩; have bN := bu (bl (g := bB) (o := .cells #[.slice bL bA.length bJ, .slice bH bD.length bI, .int .i64 bF] 27 (0, 0)) (by (with_reducible repeat (first | refine a4 ?_ _ | refine bh ?_ | refine a5 ?_ _)); exact bz.out) hb); have bO := bu (below_step (by repeat (first | (with_reducible first | exact HB.out | apply bm | apply bj | apply bn | refine bi ?_ bG.out) | exact HB.out)) hb); clear bz; clear HB; have bz := bN; have HB := bO; clear bN bO; (try clear hb); (try clear hb2); (try clear hk); (try clear hi)))
        go_meet
        case rel => exact ⟨_, (!t176), (by first | rfl | (simp; done) | (simp [*]; done)), H', ⟨by first | omega | exact Nat.le_refl _⟩, ⟨by (with_reducible repeat (first | refine a4 ?_ _ | refine bh ?_ | refine a5 ?_ _)); exact bz.out⟩, ⟨by repeat (first | (with_reducible first | exact HB.out | apply bm | apply bj | apply bn | refine bi ?_ bG.out) | exact HB.out)⟩⟩
      case rest =>
       clear HC31
       try clear c1
       try clear c2
       try clear p2
       try clear c3
       try clear c3b0
       try clear c3b1
       try clear c8
       try clear c8b0
       try clear c8b1
       try clear c13
       try clear c13b0
       try clear c13b1
       try clear c14
       try clear c18
       try clear c18b0
       try clear c18b1
       try clear c24
       try clear c29
       try clear c30
       try clear c31
       try clear c32
       try clear c33
       try clear c36
       try clear c36b0
       try clear hcz11_0
       try clear hcz11_1
       try clear hcz11_2
       try clear hcz16_0
       try clear hcz16_1
       try clear hcz16_2
       try clear hcz21_0
       try clear hcz21_1
       try clear hcz21_2
       try clear hcz28_0
       try clear hcz28_1
       try clear hcz28_2
       try clear hcz34_0
       try clear hcz34_1
       try clear hcz34_2
       try clear hcz6_0
       try clear hcz6_1
       try clear hcz6_2
       try clear hfz11_0
       try clear hfz11_1
       try clear hfz11_2
       try clear hfz16_0
       try clear hfz16_1
       try clear hfz16_2
       try clear hfz21_0
       try clear hfz21_1
       try clear hfz21_2
       try clear hfz28_0
       try clear hfz28_1
       try clear hfz28_2
       try clear hfz34_0
       try clear hfz34_1
       try clear hfz34_2
       try clear hfz6_0
       try clear hfz6_1
       try clear hfz6_2
       obtain ⟨kq, x42_30, rfl, HA, HJ30, bz, HB⟩ := hcut
       cases kq with
       | zero => exact absurd HA.out (by simp [vars_Text.j0])
       | succ kj30 =>
        have H := HA.out
        clear HA
        simp only [vars_Text.j0] at H
        by_cases c39 : x42_30 = true
        ·
         subst c39
         have H1 : (some ((⟨#[]⟩ : ByteArray), false)) = some (r1, r2) := by rw [if_pos rfl] at H; exact H
         clear H
         have H := H1
         clear H1
         simp only [Option.some.injEq, Prod.mk.injEq] at H
         obtain ⟨rfl, rfl⟩ := H
         go_wp2
         go_ret2
         exact ⟨by first | rfl | (simp [errW_none, errW_some] <;> rfl) | (simp [*, errW_none, errW_some] <;> rfl), by repeat (first | (with_reducible first | exact HB.out | apply bm | apply bj | apply bn | refine bi ?_ bG.out) | exact HB.out)⟩
        ·
         replace c39 := Bool.eq_false_iff.mpr c39
         subst c39
         have H1 : (if 0 ≤ bC then (if bC < (bA.length : Int) then (if (rd_T53 bA bC).f2 = true then (if 0 ≤ (mn (((rd_T53 bA bC).f3).length : Int) 1) then (if (mn (((rd_T53 bA bC).f3).length : Int) 1) ≤ (((rd_T53 bA bC).f3).length : Int) then ((strings_Join.f (((rd_T53 bA bC).f3).take ((mn (((rd_T53 bA bC).f3).length : Int) 1) : Int).toNat) (⟨#[]⟩ : ByteArray)).bind fun t180 => (some (t180, true))) else (none)) else (none)) else (some ((rd_T53 bA bC).f1, true))) else (none)) else (none)) = some (r1, r2) := by rw [if_neg (show ¬ (false = true) by decide)] at H; exact H
         clear H
         have H := H1
         clear H1
         by_cases c40 : 0 ≤ bC
         ·
          rw [if_pos c40] at H
          have c40b0 : decide (0 ≤ bC) = true := decide_eq_true c40
          clear c40
          by_cases c41 : bC < (bA.length : Int)
          ·
           rw [if_pos c41] at H
           have c41b0 : decide (bC < (bA.length : Int)) = true := decide_eq_true c41
           clear c41
           obtain ⟨bq42, hbq42⟩ : ∃ b_ : Bool, b_ = ((rd_T53 bA bC).f2) := ⟨_, rfl⟩
           replace H : (if bq42 = true then (if 0 ≤ (mn (((rd_T53 bA bC).f3).length : Int) 1) then (if (mn (((rd_T53 bA bC).f3).length : Int) 1) ≤ (((rd_T53 bA bC).f3).length : Int) then ((strings_Join.f (((rd_T53 bA bC).f3).take ((mn (((rd_T53 bA bC).f3).length : Int) 1) : Int).toNat) (⟨#[]⟩ : ByteArray)).bind fun t180 => (some (t180, true))) else (none)) else (none)) else (some ((rd_T53 bA bC).f1, true))) = some (r1, r2) := by rw [← hbq42] at H; exact H
           have Nbq42 := bu hbq42
           clear hbq42
           by_cases c43 : bq42 = true
           ·
            subst c43
            have H1 : (if 0 ≤ (mn (((rd_T53 bA bC).f3).length : Int) 1) then (if (mn (((rd_T53 bA bC).f3).length : Int) 1) ≤ (((rd_T53 bA bC).f3).length : Int) then ((strings_Join.f (((rd_T53 bA bC).f3).take ((mn (((rd_T53 bA bC).f3).length : Int) 1) : Int).toNat) (⟨#[]⟩ : ByteArray)).bind fun t180 => (some (t180, true))) else (none)) else (none)) = some (r1, r2) := by rw [if_pos rfl] at H; exact H
            clear H
            have H := H1
            clear H1
            obtain ⟨ji44, hji44⟩ : ∃ j_ : Int, (mn (((rd_T53 bA bC).f3).length : Int) 1) = j_ := ⟨_, rfl⟩
            replace H : (if 0 ≤ (ji44) then (if (ji44) ≤ (((rd_T53 bA bC).f3).length : Int) then ((strings_Join.f (((rd_T53 bA bC).f3).take ((ji44) : Int).toNat) (⟨#[]⟩ : ByteArray)).bind fun t180 => (some (t180, true))) else (none)) else (none)) = some (r1, r2) := by first | (rw [hji44] at H; exact H) | (simp only [hji44] at H ⊢; exact H)
            have hji44_ : (if 1 < (((rd_T53 bA bC).f3).length : Int) then 1 else (((rd_T53 bA bC).f3).length : Int)) = ji44 := hji44
            by_cases c45 : 0 ≤ (ji44)
            ·
             rw [if_pos c45] at H
             have c45b0 := eq_true c45
             have c45b1 : decide (0 ≤ (ji44)) = true := decide_eq_true c45
             clear c45
             by_cases c46 : (ji44) ≤ (((rd_T53 bA bC).f3).length : Int)
             ·
              rw [if_pos c46] at H
              have c46b0 := eq_true c46
              have c46b1 : decide ((ji44) ≤ (((rd_T53 bA bC).f3).length : Int)) = true := decide_eq_true c46
              clear c46
              replace H := Option.bind_eq_some_iff.mp H
              obtain ⟨t180, A470, H⟩ := H
              replace H : (some (t180, true)) = some (r1, r2) := H
              have A47 := bu A470
              clear A470
              simp only [Option.some.injEq, Prod.mk.injEq] at H
              obtain ⟨rfl, rfl⟩ := H
              have hcz48_0 : wc.cell? ⟨bB, 0, none⟩ = some (.slice bL bA.length bJ) := (bo bz.out 0).trans rfl
              have hcz48_1 : wc.cell? ⟨bB, 1, none⟩ = some (.slice bH bD.length bI) := (bo bz.out 1).trans rfl
              have hcz48_2 : wc.cell? ⟨bB, 2, none⟩ = some (.int .i64 bF) := (bo bz.out 2).trans rfl
              have hfz48_0 := bk bz.out 0
              have hfz48_1 := bk bz.out 1
              have hfz48_2 := bk bz.out 2
              have p177 : 0 ≤ (bC : Int) := of_decide_eq_true (by first | (with_reducible assumption) | assumption)
              have q177 : bC < (bA.length : Int) := of_decide_eq_true (by first | (with_reducible assumption) | assumption)
              obtain ⟨ad177, bP, bQ, e177, hx177_0, hx177_1, hx177_2, hx177_3, hl177_3, hi177_3⟩ := at_T53 HR0_0.out bC p177 q177
              (try rw [← Nbq42.out] at hx177_2)
              cases e177
              replace hx177_0 := (HB.out.cell (World.block_lt_of_cell? w _ hx177_0)).trans hx177_0
              replace hx177_1 := (HB.out.cell (World.block_lt_of_cell? w _ hx177_1)).trans hx177_1
              replace hx177_2 := (HB.out.cell (World.block_lt_of_cell? w _ hx177_2)).trans hx177_2
              replace hx177_3 := (HB.out.cell (World.block_lt_of_cell? w _ hx177_3)).trans hx177_3
              have HR177_3 := bu hi177_3
              have HC177_3 := bu hl177_3
              clear hi177_3 hl177_3
              replace p177 := eq_true p177
              replace q177 := eq_true q177
              go_wp2_with (first | ((with_reducible refine gate_dst (N := 7) rfl ?_); refine box_event ?hg (N := 7) ?hd (cs := #[.string (⟨#[]⟩ : ByteArray), .string (⟨#[]⟩ : ByteArray), .bool false, .slice none 0 0]) (t := 53) ?hr ?_; (case hd => rfl); (case hg => rfl); (case hr => first | (go_simp; done) | (go_simp; rfl)); intro bE hg w49 hbox hb; have bN := bu (bl (g := bB) (o := .cells #[.slice (some ad177) bA.length bJ, .slice bH bD.length bI, .int .i64 bF] 27 (0, 0)) (by (with_reducible repeat (first | refine a4 ?_ _ | refine bh ?_ | refine a5 ?_ _)); exact bz.out) hb); have bO := bu (below_step (by repeat (first | (with_reducible first | exact HB.out | apply bm | apply bj | apply bn | refine bi ?_ bG.out) | exact HB.out)) hb); have bV := bu (hbox); have n3_ := bu ((by rw [hg]; exact (bs (by repeat (first | (with_reducible first | exact HB.out | apply bm | apply bj | apply bn | refine bi ?_ bG.out) | exact HB.out))) : w.heap.size ≤ bE)); have n4_ := bu ((by rw [hg]; exact (bs (by repeat (first | (with_reducible first | exact HB.out | apply bm | apply bj | apply bn | refine bi ?_ bG.out) | exact HB.out))) : w.heap.size ≤ bE)); have n5_ := bu ((by rw [hg]; exact Nat.ne_of_lt (blk_lt (g := bB) (o := .cells #[.slice (some ad177) bA.length bJ, .slice bH bD.length bI, .int .i64 bF] 27 (0, 0)) (by (with_reducible repeat (first | refine a4 ?_ _ | refine bh ?_ | refine a5 ?_ _)); exact bz.out)) : bB ≠ bE)); have n6_ := bu ((by rw [hg]; exact Nat.ne_of_gt (blk_lt (g := bB) (o := .cells #[.slice (some ad177) bA.length bJ, .slice bH bD.length bI, .int .i64 bF] 27 (0, 0)) (by (with_reducible repeat (first | refine a4 ?_ _ | refine bh ?_ | refine a5 ?_ _)); exact bz.out)) : bE ≠ bB)); clear bz; clear HB; have bz := bN; have HB := bO; have bK := bV; have GW178 := n3_; have GE178 := n4_; have bM := n5_; have bT := n6_; clear bN bO bV n3_ n4_ n5_ n6_; clear hb hbox hg; have hnb50 := bT.out; have hnc50 := bM.out; have hcz51_0 : w49.cell? ⟨bE, 0, none⟩ = some (.string (⟨#[]⟩ : ByteArray)) := (bo bK.out 0).trans rfl; have hcz51_1 : w49.cell? ⟨bE, 1, none⟩ = some (.string (⟨#[]⟩ : ByteArray)) := (bo bK.out 1).trans rfl; have hcz51_2 : w49.cell? ⟨bE, 2, none⟩ = some (.bool false) := (bo bK.out 2).trans rfl; have hcz51_3 : w49.cell? ⟨bE, 3, none⟩ = some (.slice none 0 0) := (bo bK.out 3).trans rfl; have hfz51_0 := bk bK.out 0; have hfz51_1 := bk bK.out 1; have hfz51_2 := bk bK.out 2; have hfz51_3 := bk bK.out 3; obtain ⟨i052, hi052, _, hsz52, _⟩ := info_parts info9; obtain ⟨hcut52, hA52, hC52⟩ := print_take_of (P := Tryd.prog) Value.string (⟨#[]⟩ : ByteArray) 23 9 .i64 Tryd.underlying23 hi052 hsz52 bP bQ ((rd_T53 bA bC).f3) (ji44) (of_decide_eq_true (by first | (with_reducible assumption) | assumption)) (of_decide_eq_true (by first | (with_reducible assumption) | assumption)) HC177_3.out; have HR179 := bu (Kd.C_of_reads (h1 := fun _ => rfl) (hA52 _ (Kd.reads_of_C HR177_3.out))); have HC179 := bu hC52; clear hA52 hC52 hi052 hsz52) | ((with_reducible refine bv (f := 30) rfl ?_); refine goesL_ (some 57) rfl rfl Tryd.func30 (by kernel_rfl) rfl #[.slice bP (((rd_T53 bA bC).f3).take ((ji44) : Int).toNat).length bQ, .string (⟨#[]⟩ : ByteArray)] rfl (by (try simp only [List.map_toArray, List.map_cons, List.map_nil]); first | done | (rw [show (((rd_T53 bA bC).f3).take ((ji44) : Int).toNat).length = (ji44).toNat from (by rw [List.length_take]; have h_ : ((ji44) : Int) ≤ (((rd_T53 bA bC).f3).length : Int) := of_decide_eq_true (by first | (with_reducible assumption) | assumption); omega)] <;> rfl) | (simp only [hji44]; rfl) | rfl | (simp only [List.length_drop, List.length_take]; rfl)) ?_; (with_reducible refine (strings_Join.calls _ _ (((rd_T53 bA bC).f3).take ((ji44) : Int).toNat) (⟨#[]⟩ : ByteArray) t180 _ ?bR ?bS A47.out).mono ?_); (case bR => exact br HR179.out (by repeat (first | (with_reducible first | exact HB.out | apply bm | apply bj | apply bn | refine bi ?_ bG.out | refine bi ?_ GE178.out) | exact HB.out))); (case bS => exact HC179.out); rintro e w53 ⟨rfl, hb⟩; refine ⟨_, rfl, ?_⟩; have bN := bu (bl (g := bB) (o := .cells #[.slice (some ad177) bA.length bJ, .slice bH bD.length bI, .int .i64 bF] 27 (0, 0)) (by (with_reducible repeat (first | refine a4 ?_ _ | refine bh ?_ | refine a5 ?_ _)); refine blk_far ?_ bM.out _; (with_reducible repeat (first | refine a4 ?_ _ | refine bh ?_ | refine a5 ?_ _)); refine blk_far ?_ bM.out _; (with_reducible repeat (first | refine a4 ?_ _ | refine bh ?_ | refine a5 ?_ _)); refine blk_far ?_ bM.out _; (with_reducible repeat (first | refine a4 ?_ _ | refine bh ?_ | refine a5 ?_ _)); refine blk_far ?_ bM.out _; (with_reducible repeat (first | refine a4 ?_ _ | refine bh ?_ | refine a5 ?_ _)); exact bz.out) hb); have bO := bu (bl (g := bE) (o := .cells #[.string ((rd_T53 bA bC).f0), .string ((rd_T53 bA bC).f1), .bool true, .slice bP ((rd_T53 bA bC).f3).length bQ] 53 (0, 0)) (by (with_reducible repeat (first | refine a4 ?_ _ | refine bh ?_ | refine a5 ?_ _)); refine blk_put (cs := #[.string ((rd_T53 bA bC).f0), .string ((rd_T53 bA bC).f1), .bool true, .slice none 0 0]) ?_ 3 _ rfl; (with_reducible repeat (first | refine a4 ?_ _ | refine bh ?_ | refine a5 ?_ _)); refine blk_put (cs := #[.string ((rd_T53 bA bC).f0), .string ((rd_T53 bA bC).f1), .bool false, .slice none 0 0]) ?_ 2 _ rfl; (with_reducible repeat (first | refine a4 ?_ _ | refine bh ?_ | refine a5 ?_ _)); refine blk_put (cs := #[.string ((rd_T53 bA bC).f0), .string (⟨#[]⟩ : ByteArray), .bool false, .slice none 0 0]) ?_ 1 _ rfl; (with_reducible repeat (first | refine a4 ?_ _ | refine bh ?_ | refine a5 ?_ _)); refine blk_put (cs := #[.string (⟨#[]⟩ : ByteArray), .string (⟨#[]⟩ : ByteArray), .bool false, .slice none 0 0]) ?_ 0 _ rfl; (with_reducible repeat (first | refine a4 ?_ _ | refine bh ?_ | refine a5 ?_ _)); exact bK.out) hb); have bV := bu (below_step (by repeat (first | (with_reducible first | exact HB.out | apply bm | apply bj | apply bn | refine bi ?_ bG.out | refine bi ?_ GE178.out) | exact HB.out)) hb); clear bz; clear bK; clear HB; have bz := bN; have bK := bO; have HB := bV; clear bN bO bV; (try clear hb); (try clear hb2); (try clear hk); (try clear hi)))
              go_ret2
              exact ⟨by first | rfl | (simp [errW_none, errW_some] <;> rfl) | (simp only [← hji44]; first | rfl | (simp [errW_none, errW_some] <;> rfl)) | (simp [*, errW_none, errW_some] <;> rfl), by repeat (first | (with_reducible first | exact HB.out | apply bm | apply bj | apply bn | refine bi ?_ bG.out | refine bi ?_ GE178.out) | exact HB.out)⟩
             ·
              rw [if_neg c46] at H
              exact absurd H (by simp)
            ·
             rw [if_neg c45] at H
             exact absurd H (by simp)
           ·
            replace c43 := Bool.eq_false_iff.mpr c43
            subst c43
            have H1 : (some ((rd_T53 bA bC).f1, true)) = some (r1, r2) := by rw [if_neg (show ¬ (false = true) by decide)] at H; exact H
            clear H
            have H := H1
            clear H1
            simp only [Option.some.injEq, Prod.mk.injEq] at H
            obtain ⟨rfl, rfl⟩ := H
            have hcz54_0 : wc.cell? ⟨bB, 0, none⟩ = some (.slice bL bA.length bJ) := (bo bz.out 0).trans rfl
            have hcz54_1 : wc.cell? ⟨bB, 1, none⟩ = some (.slice bH bD.length bI) := (bo bz.out 1).trans rfl
            have hcz54_2 : wc.cell? ⟨bB, 2, none⟩ = some (.int .i64 bF) := (bo bz.out 2).trans rfl
            have hfz54_0 := bk bz.out 0
            have hfz54_1 := bk bz.out 1
            have hfz54_2 := bk bz.out 2
            have p177 : 0 ≤ (bC : Int) := of_decide_eq_true (by first | (with_reducible assumption) | assumption)
            have q177 : bC < (bA.length : Int) := of_decide_eq_true (by first | (with_reducible assumption) | assumption)
            obtain ⟨ad177, bP, bQ, e177, hx177_0, hx177_1, hx177_2, hx177_3, hl177_3, hi177_3⟩ := at_T53 HR0_0.out bC p177 q177
            (try rw [← Nbq42.out] at hx177_2)
            cases e177
            replace hx177_0 := (HB.out.cell (World.block_lt_of_cell? w _ hx177_0)).trans hx177_0
            replace hx177_1 := (HB.out.cell (World.block_lt_of_cell? w _ hx177_1)).trans hx177_1
            replace hx177_2 := (HB.out.cell (World.block_lt_of_cell? w _ hx177_2)).trans hx177_2
            replace hx177_3 := (HB.out.cell (World.block_lt_of_cell? w _ hx177_3)).trans hx177_3
            have HR177_3 := bu hi177_3
            have HC177_3 := bu hl177_3
            clear hi177_3 hl177_3
            replace p177 := eq_true p177
            replace q177 := eq_true q177
            go_wp2_with (first | ((with_reducible refine gate_dst (N := 7) rfl ?_); refine box_event ?hg (N := 7) ?hd (cs := #[.string (⟨#[]⟩ : ByteArray), .string (⟨#[]⟩ : ByteArray), .bool false, .slice none 0 0]) (t := 53) ?hr ?_; (case hd => rfl); (case hg => rfl); (case hr => first | (go_simp; done) | (go_simp; rfl)); intro bE hg w55 hbox hb; have bN := bu (bl (g := bB) (o := .cells #[.slice (some ad177) bA.length bJ, .slice bH bD.length bI, .int .i64 bF] 27 (0, 0)) (by (with_reducible repeat (first | refine a4 ?_ _ | refine bh ?_ | refine a5 ?_ _)); exact bz.out) hb); have bO := bu (below_step (by repeat (first | (with_reducible first | exact HB.out | apply bm | apply bj | apply bn | refine bi ?_ bG.out) | exact HB.out)) hb); have bV := bu (hbox); have n3_ := bu ((by rw [hg]; exact (bs (by repeat (first | (with_reducible first | exact HB.out | apply bm | apply bj | apply bn | refine bi ?_ bG.out) | exact HB.out))) : w.heap.size ≤ bE)); have n4_ := bu ((by rw [hg]; exact (bs (by repeat (first | (with_reducible first | exact HB.out | apply bm | apply bj | apply bn | refine bi ?_ bG.out) | exact HB.out))) : w.heap.size ≤ bE)); have n5_ := bu ((by rw [hg]; exact Nat.ne_of_lt (blk_lt (g := bB) (o := .cells #[.slice (some ad177) bA.length bJ, .slice bH bD.length bI, .int .i64 bF] 27 (0, 0)) (by (with_reducible repeat (first | refine a4 ?_ _ | refine bh ?_ | refine a5 ?_ _)); exact bz.out)) : bB ≠ bE)); have n6_ := bu ((by rw [hg]; exact Nat.ne_of_gt (blk_lt (g := bB) (o := .cells #[.slice (some ad177) bA.length bJ, .slice bH bD.length bI, .int .i64 bF] 27 (0, 0)) (by (with_reducible repeat (first | refine a4 ?_ _ | refine bh ?_ | refine a5 ?_ _)); exact bz.out)) : bE ≠ bB)); clear bz; clear HB; have bz := bN; have HB := bO; have bK := bV; have GW178 := n3_; have GE178 := n4_; have bM := n5_; have bT := n6_; clear bN bO bV n3_ n4_ n5_ n6_; clear hb hbox hg; have hnb56 := bT.out; have hnc56 := bM.out; have hcz57_0 : w55.cell? ⟨bE, 0, none⟩ = some (.string (⟨#[]⟩ : ByteArray)) := (bo bK.out 0).trans rfl; have hcz57_1 : w55.cell? ⟨bE, 1, none⟩ = some (.string (⟨#[]⟩ : ByteArray)) := (bo bK.out 1).trans rfl; have hcz57_2 : w55.cell? ⟨bE, 2, none⟩ = some (.bool false) := (bo bK.out 2).trans rfl; have hcz57_3 : w55.cell? ⟨bE, 3, none⟩ = some (.slice none 0 0) := (bo bK.out 3).trans rfl; have hfz57_0 := bk bK.out 0; have hfz57_1 := bk bK.out 1; have hfz57_2 := bk bK.out 2; have hfz57_3 := bk bK.out 3; have hcz58_0 : w55.cell? ⟨bB, 0, none⟩ = some (.slice (some ad177) bA.length bJ) := (bo bz.out 0).trans rfl; have hcz58_1 : w55.cell? ⟨bB, 1, none⟩ = some (.slice bH bD.length bI) := (bo bz.out 1).trans rfl; have hcz58_2 : w55.cell? ⟨bB, 2, none⟩ = some (.int .i64 bF) := (bo bz.out 2).trans rfl; have hfz58_0 := bk bz.out 0; have hfz58_1 := bk bz.out 1; have hfz58_2 := bk bz.out 2; have p181 : 0 ≤ (bC : Int) := of_decide_eq_true (by first | (with_reducible assumption) | assumption); have q181 : bC < (bA.length : Int) := of_decide_eq_true (by first | (with_reducible assumption) | assumption); obtain ⟨ad181, A181_3, c181_3, e181, hx181_0, hx181_1, hx181_2, hx181_3, hl181_3, hi181_3⟩ := at_T53 HR0_0.out bC p181 q181; (try rw [← Nbq42.out] at hx181_2); obtain rfl : ad177 = ad181 := (by injection e181); have hn181_0 : ad177.block ≠ bE := Nat.ne_of_lt (Nat.lt_of_lt_of_le (by have := World.block_lt_of_cell? _ _ hx181_0; first | rwa [add_block] at this | exact this) GW178.out); have hn181_1 : ad177.block ≠ bE := Nat.ne_of_lt (Nat.lt_of_lt_of_le (by have := World.block_lt_of_cell? _ _ hx181_0; first | rwa [add_block] at this | exact this) GW178.out); have hn181_2 : ad177.block ≠ bE := Nat.ne_of_lt (Nat.lt_of_lt_of_le (by have := World.block_lt_of_cell? _ _ hx181_0; first | rwa [add_block] at this | exact this) GW178.out); have hn181_3 : ad177.block ≠ bE := Nat.ne_of_lt (Nat.lt_of_lt_of_le (by have := World.block_lt_of_cell? _ _ hx181_0; first | rwa [add_block] at this | exact this) GW178.out); replace hx181_0 := (HB.out.cell (World.block_lt_of_cell? w _ hx181_0)).trans hx181_0; replace hx181_1 := (HB.out.cell (World.block_lt_of_cell? w _ hx181_1)).trans hx181_1; replace hx181_2 := (HB.out.cell (World.block_lt_of_cell? w _ hx181_2)).trans hx181_2; replace hx181_3 := (HB.out.cell (World.block_lt_of_cell? w _ hx181_3)).trans hx181_3; have HR181_3 := bu hi181_3; have HC181_3 := bu hl181_3; clear hi181_3 hl181_3; replace hx181_0 := (cell_far (p := ⟨bE, 0, none⟩) (by first | (rw [add_block]; exact hn181_0) | (show (Addr.add _ _).block ≠ _; rw [add_block]; exact hn181_0) | exact hn181_0) (.string ((rd_T53 bA bC).f0))).trans hx181_0; replace hx181_1 := (cell_far (p := ⟨bE, 0, none⟩) (by first | (rw [add_block]; exact hn181_0) | (show (Addr.add _ _).block ≠ _; rw [add_block]; exact hn181_0) | exact hn181_0) (.string ((rd_T53 bA bC).f0))).trans hx181_1; replace hx181_2 := (cell_far (p := ⟨bE, 0, none⟩) (by first | (rw [add_block]; exact hn181_0) | (show (Addr.add _ _).block ≠ _; rw [add_block]; exact hn181_0) | exact hn181_0) (.string ((rd_T53 bA bC).f0))).trans hx181_2; replace hx181_3 := (cell_far (p := ⟨bE, 0, none⟩) (by first | (rw [add_block]; exact hn181_0) | (show (Addr.add _ _).block ≠ _; rw [add_block]; exact hn181_0) | exact hn181_0) (.string ((rd_T53 bA bC).f0))).trans hx181_3; replace hx181_0 := (cell_far (p := ⟨bE, 1, none⟩) (by first | (rw [add_block]; exact hn181_1) | (show (Addr.add _ _).block ≠ _; rw [add_block]; exact hn181_1) | exact hn181_1) (.string ((rd_T53 bA bC).f1))).trans hx181_0; replace hx181_1 := (cell_far (p := ⟨bE, 1, none⟩) (by first | (rw [add_block]; exact hn181_1) | (show (Addr.add _ _).block ≠ _; rw [add_block]; exact hn181_1) | exact hn181_1) (.string ((rd_T53 bA bC).f1))).trans hx181_1; replace hx181_2 := (cell_far (p := ⟨bE, 1, none⟩) (by first | (rw [add_block]; exact hn181_1) | (show (Addr.add _ _).block ≠ _; rw [add_block]; exact hn181_1) | exact hn181_1) (.string ((rd_T53 bA bC).f1))).trans hx181_2; replace hx181_3 := (cell_far (p := ⟨bE, 1, none⟩) (by first | (rw [add_block]; exact hn181_1) | (show (Addr.add _ _).block ≠ _; rw [add_block]; exact hn181_1) | exact hn181_1) (.string ((rd_T53 bA bC).f1))).trans hx181_3; replace hx181_0 := (cell_far (p := ⟨bE, 2, none⟩) (by first | (rw [add_block]; exact hn181_2) | (show (Addr.add _ _).block ≠ _; rw [add_block]; exact hn181_2) | exact hn181_2) (.bool false)).trans hx181_0; replace hx181_1 := (cell_far (p := ⟨bE, 2, none⟩) (by first | (rw [add_block]; exact hn181_2) | (show (Addr.add _ _).block ≠ _; rw [add_block]; exact hn181_2) | exact hn181_2) (.bool false)).trans hx181_1; replace hx181_2 := (cell_far (p := ⟨bE, 2, none⟩) (by first | (rw [add_block]; exact hn181_2) | (show (Addr.add _ _).block ≠ _; rw [add_block]; exact hn181_2) | exact hn181_2) (.bool false)).trans hx181_2; replace hx181_3 := (cell_far (p := ⟨bE, 2, none⟩) (by first | (rw [add_block]; exact hn181_2) | (show (Addr.add _ _).block ≠ _; rw [add_block]; exact hn181_2) | exact hn181_2) (.bool false)).trans hx181_3; replace hx181_0 := (cell_far (p := ⟨bE, 3, none⟩) (by first | (rw [add_block]; exact hn181_3) | (show (Addr.add _ _).block ≠ _; rw [add_block]; exact hn181_3) | exact hn181_3) (.slice bP ((rd_T53 bA bC).f3).length bQ)).trans hx181_0; replace hx181_1 := (cell_far (p := ⟨bE, 3, none⟩) (by first | (rw [add_block]; exact hn181_3) | (show (Addr.add _ _).block ≠ _; rw [add_block]; exact hn181_3) | exact hn181_3) (.slice bP ((rd_T53 bA bC).f3).length bQ)).trans hx181_1; replace hx181_2 := (cell_far (p := ⟨bE, 3, none⟩) (by first | (rw [add_block]; exact hn181_3) | (show (Addr.add _ _).block ≠ _; rw [add_block]; exact hn181_3) | exact hn181_3) (.slice bP ((rd_T53 bA bC).f3).length bQ)).trans hx181_2; replace hx181_3 := (cell_far (p := ⟨bE, 3, none⟩) (by first | (rw [add_block]; exact hn181_3) | (show (Addr.add _ _).block ≠ _; rw [add_block]; exact hn181_3) | exact hn181_3) (.slice bP ((rd_T53 bA bC).f3).length bQ)).trans hx181_3; clear hn181_0; clear hn181_1; clear hn181_2; clear hn181_3; replace p181 := eq_true p181; replace q181 := eq_true q181))
            go_ret2
            exact ⟨by first | rfl | (simp [errW_none, errW_some] <;> rfl) | (simp [*, errW_none, errW_some] <;> rfl), by repeat (first | (with_reducible first | exact HB.out | apply bm | apply bj | apply bn | refine bi ?_ bG.out | refine bi ?_ GE178.out) | exact HB.out)⟩
          ·
           rw [if_neg c41] at H
           exact absurd H (by simp)
         ·
          rw [if_neg c40] at H
          exact absurd H (by simp)

/-! ### cowrielaw20_alive: function 6 -/
def cowrielaw20_alive.f (k : Nat)  : Option (Bool) := (vars_Put.f k ([] : List (S53)) ([] : List ByteArray) 0 (⟨#[120]⟩ : ByteArray) (⟨#[97]⟩ : ByteArray)).bind fun bt182 => ((vars_Text.f k bt182.1 bt182.2.1 bt182.2.2.1 (⟨#[120]⟩ : ByteArray)).bind fun bt191 => ((cowrielaw20_num.f bt182.2.2.2).bind fun t193 => (if t193 = 0 then (if bt191.2 = true then (some (bt191.1.toList == ([97] : List UInt8))) else (some false)) else (some false))))
set_option maxHeartbeats 8000000 in
set_option maxRecDepth 100000 in
theorem cowrielaw20_alive.calls (k : Nat)  (r : Bool) (w : World) (h : cowrielaw20_alive.f k  = some r) :
  Calls Tryd.prog 6 #[] w fun e w' => e = .returned (.bool r) ∧ Below w.heap.size w w' := by
 have hu27 := Tryd.underlying27
 have HB := bu (bw w.heap.size w)
 have H : ((vars_Put.f k ([] : List (S53)) ([] : List ByteArray) 0 (⟨#[120]⟩ : ByteArray) (⟨#[97]⟩ : ByteArray)).bind fun bt182 => ((vars_Text.f k bt182.1 bt182.2.1 bt182.2.2.1 (⟨#[120]⟩ : ByteArray)).bind fun bt191 => ((cowrielaw20_num.f bt182.2.2.2).bind fun bK => (if bK = 0 then (if bt191.2 = true then (some (bt191.1.toList == ([97] : List UInt8))) else (some false)) else (some false))))) = some r := h
 clear h
 replace H := Option.bind_eq_some_iff.mp H
 obtain ⟨⟨bD, bE, bF, t189⟩, A10, H⟩ := H
 replace H : ((vars_Text.f k bD bE bF (⟨#[120]⟩ : ByteArray)).bind fun bt191 => ((cowrielaw20_num.f t189).bind fun bK => (if bK = 0 then (if bt191.2 = true then (some (bt191.1.toList == ([97] : List UInt8))) else (some false)) else (some false)))) = some r := H
 have A1 := bu A10
 clear A10
 replace H := Option.bind_eq_some_iff.mp H
 obtain ⟨⟨t191, t192⟩, A20, H⟩ := H
 replace H : ((cowrielaw20_num.f t189).bind fun bK => (if bK = 0 then (if t192 = true then (some (t191.toList == ([97] : List UInt8))) else (some false)) else (some false))) = some r := H
 have A2 := bu A20
 clear A20
 replace H := Option.bind_eq_some_iff.mp H
 obtain ⟨bK, A30, H⟩ := H
 replace H : (if bK = 0 then (if t192 = true then (some (t191.toList == ([97] : List UInt8))) else (some false)) else (some false)) = some r := H
 have A3 := bu A30
 clear A30
 by_cases c4 : bK = 0
 ·
  rw [if_pos c4] at H
  have c4b0 : (bK == 0) = true := beq_iff_eq.mpr c4
  have c4b1 : (bK != 0) = false := bne_eq_false_iff_eq.mpr c4
  clear c4
  by_cases c5 : t192 = true
  ·
   subst c5
   have H1 : (some (t191.toList == ([97] : List UInt8))) = some r := by rw [if_pos rfl] at H; exact H
   clear H
   have H := H1
   clear H1
   obtain rfl := Option.some.inj H
   go_enter Tryd.func6, Tryd.ntmps6
   go_wp2_with (first | ((with_reducible refine bv (f := 11) rfl ?_); refine goesL_ (some 7) rfl rfl Tryd.func11 (by kernel_rfl) rfl #[.agg #[.slice none 0 0, .slice none 0 0, .int .i64 0], .string (⟨#[120]⟩ : ByteArray), .string (⟨#[97]⟩ : ByteArray)] rfl (by (try simp only [List.map_toArray, List.map_cons, List.map_nil]); first | done | rfl | (simp only [List.length_drop, List.length_take]; rfl)) ?_; (refine (vars_Put.calls k _ _ ([] : List (S53)) _ _ ([] : List ByteArray) 0 (⟨#[120]⟩ : ByteArray) (⟨#[97]⟩ : ByteArray) bD bE bF t189 _ ?bG ?bH ?bI ?bJ A1.out).mono ?_); (case bG => exact Kd.C_nil _ _); (case bH => exact Nat.le_refl _); (case bI => exact Kd.C_nil _ _); (case bJ => exact Nat.le_refl _); rintro e w6 ⟨v183, v186, rfl, ho0, ho1, hb⟩; refine ⟨_, rfl, ?_⟩; have bL := bu (Kd.N_lower (Kd.N_mono (ok' := fun k_ => some k_ ≠ (v186 : Value).ownBlock) ho0 (fun k_ hk_ => hk_.2)) (bs (by repeat (first | (with_reducible first | exact HB.out | apply bm | apply bj | apply bn) | exact HB.out)))); have bM := bu (Kd.R_lower (Kd.R_mono (ok' := fun k_ => True) ho1 (fun _ hk_ => trivial)) (bs (by repeat (first | (with_reducible first | exact HB.out | apply bm | apply bj | apply bn) | exact HB.out)))); have bN := bu (below_step (by repeat (first | (with_reducible first | exact HB.out | apply bm | apply bj | apply bn) | exact HB.out)) hb); clear HB; have bB := bL; have bC := bM; have HB := bN; clear bL bM bN; (try clear hb); (try clear hb2); (try clear hk); (try clear hi); (try clear ho0); (try clear ho1)) | ((with_reducible refine gate_dst (N := 1) rfl ?_); refine box_event ?hg (N := 1) ?hd (cs := #[.slice none 0 0, .slice none 0 0, .int .i64 0]) (t := 27) ?hr ?_; (case hd => rfl); (case hg => rfl); (case hr => first | (go_simp; done) | (go_simp; rfl)); intro bz hg w7 hbox hb; have bL := bu (Kd.N_below (Kd.N_elderB (by (with_reducible repeat (first | apply Kd.N_alloc | apply Kd.N_drewN | apply Kd.N_drew)); exact bB.out) bz (Nat.le_of_eq hg.symm)) hb); have bM := bu (Kd.R_below (by (with_reducible repeat (first | apply Kd.R_alloc | apply Kd.R_drewN | apply Kd.R_drew)); exact bC.out) hb); have bN := bu (below_step (by repeat (first | (with_reducible first | exact HB.out | apply bm | apply bj | apply bn) | exact HB.out)) hb); have n3_ := bu (hbox); have n4_ := bu ((by rw [hg]; exact (bs (by repeat (first | (with_reducible first | exact HB.out | apply bm | apply bj | apply bn) | exact HB.out))) : w.heap.size ≤ bz)); have n5_ := bu ((by rw [hg]; exact (bs (by repeat (first | (with_reducible first | exact HB.out | apply bm | apply bj | apply bn) | exact HB.out))) : w.heap.size ≤ bz)); clear bB; clear bC; clear HB; have bB := bL; have bC := bM; have HB := bN; have bA := n3_; have GW190 := n4_; have bO := n5_; clear bL bM bN n3_ n4_ n5_; clear hb hbox hg; obtain ⟨Ao8, co8, eo8⟩ := Kd.N_slice bB.out; subst eo8; have hcz9_0 : w7.cell? ⟨bz, 0, none⟩ = some (.slice none 0 0) := (bo bA.out 0).trans rfl; have hcz9_1 : w7.cell? ⟨bz, 1, none⟩ = some (.slice none 0 0) := (bo bA.out 1).trans rfl; have hcz9_2 : w7.cell? ⟨bz, 2, none⟩ = some (.int .i64 0) := (bo bA.out 2).trans rfl; have hfz9_0 := bk bA.out 0; have hfz9_1 := bk bA.out 1; have hfz9_2 := bk bA.out 2; obtain ⟨Ao10, co10, eo10⟩ := Kd.R_slice bC.out; subst eo10) | ((with_reducible refine bv (f := 14) rfl ?_); refine goesL_ (some 12) rfl rfl Tryd.func14 (by kernel_rfl) rfl #[.agg #[.slice Ao8 bD.length co8, .slice Ao10 bE.length co10, .int .i64 bF], .string (⟨#[120]⟩ : ByteArray)] rfl (by (try simp only [List.map_toArray, List.map_cons, List.map_nil]); first | done | rfl | (simp only [List.length_drop, List.length_take]; rfl)) ?_; (with_reducible refine (vars_Text.calls k _ _ bD _ _ bE bF (⟨#[120]⟩ : ByteArray) t191 true _ ?bG ?bH ?bI ?bJ A2.out).mono ?_); (case bG => refine (Kd.N_reads' (e := 53) (base := w.heap.size) (ok := fun k_ => (some k_ ≠ (.slice Ao10 bE.length co10 : Value).ownBlock ∧ k_ ≠ bz)) (n := bD.length) (c := co8) ?_).2.2; exact (by (with_reducible repeat (first | apply Kd.N_alloc | apply Kd.N_drewN | apply Kd.N_drew)); exact (Kd.N_mono (Kd.N_far (p := ⟨bz, 2, none⟩) (Kd.N_far (p := ⟨bz, 1, none⟩) (Kd.N_far (p := ⟨bz, 0, none⟩) (Kd.N_mono bB.out (fun k_ hk => (⟨hk, hk.2⟩ : _ ∧ k_ ≠ bz))) (fun _ hk => hk.2) (.slice Ao8 bD.length co8)) (fun _ hk => hk.2) (.slice Ao10 bE.length co10)) (fun _ hk => hk.2) (.int .i64 bF)) (fun _ h_ => h_.1)))); (case bH => exact (Kd.N_reads' bB.out).2.1); (case bI => refine (Kd.R_reads' (e := 9) (base := w.heap.size) (ok := fun k_ => True) (n := bE.length) (c := co10) ?_).2.2; exact (by (with_reducible repeat (first | apply Kd.R_alloc | apply Kd.R_drewN | apply Kd.R_drew)); exact (Kd.R_mono (Kd.R_far (p := ⟨bz, 2, none⟩) (Kd.R_far (p := ⟨bz, 1, none⟩) (Kd.R_far (p := ⟨bz, 0, none⟩) (Kd.R_types bC.out bA.out (by decide)) (fun _ hk => hk.2) (.slice Ao8 bD.length co8)) (fun _ hk => hk.2) (.slice Ao10 bE.length co10)) (fun _ hk => hk.2) (.int .i64 bF)) (fun _ h_ => h_.1)))); (case bJ => exact (Kd.R_reads' bC.out).2.1); rintro e w11 ⟨rfl, hb⟩; refine ⟨_, rfl, ?_⟩; have bL := bu (Kd.N_below (by (with_reducible repeat (first | apply Kd.N_alloc | apply Kd.N_drewN | apply Kd.N_drew)); exact (Kd.N_mono (Kd.N_far (p := ⟨bz, 2, none⟩) (Kd.N_far (p := ⟨bz, 1, none⟩) (Kd.N_far (p := ⟨bz, 0, none⟩) (Kd.N_mono bB.out (fun k_ hk => (⟨hk, hk.2⟩ : _ ∧ k_ ≠ bz))) (fun _ hk => hk.2) (.slice Ao8 bD.length co8)) (fun _ hk => hk.2) (.slice Ao10 bE.length co10)) (fun _ hk => hk.2) (.int .i64 bF)) (fun _ h_ => h_.1))) hb); have bM := bu (Kd.R_below (by (with_reducible repeat (first | apply Kd.R_alloc | apply Kd.R_drewN | apply Kd.R_drew)); exact (Kd.R_mono (Kd.R_far (p := ⟨bz, 2, none⟩) (Kd.R_far (p := ⟨bz, 1, none⟩) (Kd.R_far (p := ⟨bz, 0, none⟩) (Kd.R_types bC.out bA.out (by decide)) (fun _ hk => hk.2) (.slice Ao8 bD.length co8)) (fun _ hk => hk.2) (.slice Ao10 bE.length co10)) (fun _ hk => hk.2) (.int .i64 bF)) (fun _ h_ => h_.1))) hb); have bN := bu (bl (g := bz) (o := .cells #[.slice Ao8 bD.length co8, .slice Ao10 bE.length co10, .int .i64 bF] 27 (0, 0)) (by (with_reducible repeat (first | refine a4 ?_ _ | refine bh ?_ | refine a5 ?_ _)); refine blk_put (cs := #[.slice Ao8 bD.length co8, .slice Ao10 bE.length co10, .int .i64 0]) ?_ 2 _ rfl; (with_reducible repeat (first | refine a4 ?_ _ | refine bh ?_ | refine a5 ?_ _)); refine blk_put (cs := #[.slice Ao8 bD.length co8, .slice none 0 0, .int .i64 0]) ?_ 1 _ rfl; (with_reducible repeat (first | refine a4 ?_ _ | refine bh ?_ | refine a5 ?_ _)); refine blk_put (cs := #[.slice none 0 0, .slice none 0 0, .int .i64 0]) ?_ 0 _ rfl; (with_reducible repeat (first | refine a4 ?_ _ | refine bh ?_ | refine a5 ?_ _)); exact bA.out) hb); have n3_ := bu (below_step (by repeat (first | (with_reducible first | exact HB.out | apply bm | apply bj | apply bn | refine bi ?_ bO.out) | exact HB.out)) hb); clear bB; clear bC; clear bA; clear HB; have bB := bL; have bC := bM; have bA := bN; have HB := n3_; clear bL bM bN n3_; (try clear hb); (try clear hb2); (try clear hk); (try clear hi)) | ((with_reducible refine bv (f := 12) rfl ?_); refine goesL_ (some 16) rfl rfl Tryd.func12 (by kernel_rfl) rfl #[.int .i64 t189] rfl (by (try simp only [List.map_toArray, List.map_cons, List.map_nil]); first | done | rfl | (simp only [List.length_drop, List.length_take]; rfl)) ?_; (with_reducible refine (cowrielaw20_num.calls t189 bK _ A3.out).mono ?_); rintro e w' ⟨rfl, ⟨nd, rfl⟩⟩; refine ⟨_, rfl, ?_⟩))
   go_ret
   exact ⟨by first | rfl | (simp [errW_none, errW_some] <;> rfl) | (simp [*, errW_none, errW_some] <;> rfl), by repeat (first | (with_reducible first | exact HB.out | apply bm | apply bj | apply bn | refine bi ?_ bO.out) | exact HB.out)⟩
  ·
   replace c5 := Bool.eq_false_iff.mpr c5
   subst c5
   have H1 : (some false) = some r := by rw [if_neg (show ¬ (false = true) by decide)] at H; exact H
   clear H
   have H := H1
   clear H1
   obtain rfl := Option.some.inj H
   go_enter Tryd.func6, Tryd.ntmps6
   go_wp2_with (first | ((with_reducible refine bv (f := 11) rfl ?_); refine goesL_ (some 7) rfl rfl Tryd.func11 (by kernel_rfl) rfl #[.agg #[.slice none 0 0, .slice none 0 0, .int .i64 0], .string (⟨#[120]⟩ : ByteArray), .string (⟨#[97]⟩ : ByteArray)] rfl (by (try simp only [List.map_toArray, List.map_cons, List.map_nil]); first | done | rfl | (simp only [List.length_drop, List.length_take]; rfl)) ?_; (refine (vars_Put.calls k _ _ ([] : List (S53)) _ _ ([] : List ByteArray) 0 (⟨#[120]⟩ : ByteArray) (⟨#[97]⟩ : ByteArray) bD bE bF t189 _ ?bG ?bH ?bI ?bJ A1.out).mono ?_); (case bG => exact Kd.C_nil _ _); (case bH => exact Nat.le_refl _); (case bI => exact Kd.C_nil _ _); (case bJ => exact Nat.le_refl _); rintro e w12 ⟨v183, v186, rfl, ho0, ho1, hb⟩; refine ⟨_, rfl, ?_⟩; have bL := bu (Kd.N_lower (Kd.N_mono (ok' := fun k_ => some k_ ≠ (v186 : Value).ownBlock) ho0 (fun k_ hk_ => hk_.2)) (bs (by repeat (first | (with_reducible first | exact HB.out | apply bm | apply bj | apply bn) | exact HB.out)))); have bM := bu (Kd.R_lower (Kd.R_mono (ok' := fun k_ => True) ho1 (fun _ hk_ => trivial)) (bs (by repeat (first | (with_reducible first | exact HB.out | apply bm | apply bj | apply bn) | exact HB.out)))); have bN := bu (below_step (by repeat (first | (with_reducible first | exact HB.out | apply bm | apply bj | apply bn) | exact HB.out)) hb); clear HB; have bB := bL; have bC := bM; have HB := bN; clear bL bM bN; (try clear hb); (try clear hb2); (try clear hk); (try clear hi); (try clear ho0); (try clear ho1)) | ((with_reducible refine gate_dst (N := 1) rfl ?_); refine box_event ?hg (N := 1) ?hd (cs := #[.slice none 0 0, .slice none 0 0, .int .i64 0]) (t := 27) ?hr ?_; (case hd => rfl); (case hg => rfl); (case hr => first | (go_simp; done) | (go_simp; rfl)); intro bz hg w13 hbox hb; have bL := bu (Kd.N_below (Kd.N_elderB (by (with_reducible repeat (first | apply Kd.N_alloc | apply Kd.N_drewN | apply Kd.N_drew)); exact bB.out) bz (Nat.le_of_eq hg.symm)) hb); have bM := bu (Kd.R_below (by (with_reducible repeat (first | apply Kd.R_alloc | apply Kd.R_drewN | apply Kd.R_drew)); exact bC.out) hb); have bN := bu (below_step (by repeat (first | (with_reducible first | exact HB.out | apply bm | apply bj | apply bn) | exact HB.out)) hb); have n3_ := bu (hbox); have n4_ := bu ((by rw [hg]; exact (bs (by repeat (first | (with_reducible first | exact HB.out | apply bm | apply bj | apply bn) | exact HB.out))) : w.heap.size ≤ bz)); have n5_ := bu ((by rw [hg]; exact (bs (by repeat (first | (with_reducible first | exact HB.out | apply bm | apply bj | apply bn) | exact HB.out))) : w.heap.size ≤ bz)); clear bB; clear bC; clear HB; have bB := bL; have bC := bM; have HB := bN; have bA := n3_; have GW190 := n4_; have bO := n5_; clear bL bM bN n3_ n4_ n5_; clear hb hbox hg; obtain ⟨Ao14, co14, eo14⟩ := Kd.N_slice bB.out; subst eo14; have hcz15_0 : w13.cell? ⟨bz, 0, none⟩ = some (.slice none 0 0) := (bo bA.out 0).trans rfl; have hcz15_1 : w13.cell? ⟨bz, 1, none⟩ = some (.slice none 0 0) := (bo bA.out 1).trans rfl; have hcz15_2 : w13.cell? ⟨bz, 2, none⟩ = some (.int .i64 0) := (bo bA.out 2).trans rfl; have hfz15_0 := bk bA.out 0; have hfz15_1 := bk bA.out 1; have hfz15_2 := bk bA.out 2; obtain ⟨Ao16, co16, eo16⟩ := Kd.R_slice bC.out; subst eo16) | ((with_reducible refine bv (f := 14) rfl ?_); refine goesL_ (some 12) rfl rfl Tryd.func14 (by kernel_rfl) rfl #[.agg #[.slice Ao14 bD.length co14, .slice Ao16 bE.length co16, .int .i64 bF], .string (⟨#[120]⟩ : ByteArray)] rfl (by (try simp only [List.map_toArray, List.map_cons, List.map_nil]); first | done | rfl | (simp only [List.length_drop, List.length_take]; rfl)) ?_; (with_reducible refine (vars_Text.calls k _ _ bD _ _ bE bF (⟨#[120]⟩ : ByteArray) t191 false _ ?bG ?bH ?bI ?bJ A2.out).mono ?_); (case bG => refine (Kd.N_reads' (e := 53) (base := w.heap.size) (ok := fun k_ => (some k_ ≠ (.slice Ao16 bE.length co16 : Value).ownBlock ∧ k_ ≠ bz)) (n := bD.length) (c := co14) ?_).2.2; exact (by (with_reducible repeat (first | apply Kd.N_alloc | apply Kd.N_drewN | apply Kd.N_drew)); exact (Kd.N_mono (Kd.N_far (p := ⟨bz, 2, none⟩) (Kd.N_far (p := ⟨bz, 1, none⟩) (Kd.N_far (p := ⟨bz, 0, none⟩) (Kd.N_mono bB.out (fun k_ hk => (⟨hk, hk.2⟩ : _ ∧ k_ ≠ bz))) (fun _ hk => hk.2) (.slice Ao14 bD.length co14)) (fun _ hk => hk.2) (.slice Ao16 bE.length co16)) (fun _ hk => hk.2) (.int .i64 bF)) (fun _ h_ => h_.1)))); (case bH => exact (Kd.N_reads' bB.out).2.1); (case bI => refine (Kd.R_reads' (e := 9) (base := w.heap.size) (ok := fun k_ => True) (n := bE.length) (c := co16) ?_).2.2; exact (by (with_reducible repeat (first | apply Kd.R_alloc | apply Kd.R_drewN | apply Kd.R_drew)); exact (Kd.R_mono (Kd.R_far (p := ⟨bz, 2, none⟩) (Kd.R_far (p := ⟨bz, 1, none⟩) (Kd.R_far (p := ⟨bz, 0, none⟩) (Kd.R_types bC.out bA.out (by decide)) (fun _ hk => hk.2) (.slice Ao14 bD.length co14)) (fun _ hk => hk.2) (.slice Ao16 bE.length co16)) (fun _ hk => hk.2) (.int .i64 bF)) (fun _ h_ => h_.1)))); (case bJ => exact (Kd.R_reads' bC.out).2.1); rintro e w17 ⟨rfl, hb⟩; refine ⟨_, rfl, ?_⟩; have bL := bu (Kd.N_below (by (with_reducible repeat (first | apply Kd.N_alloc | apply Kd.N_drewN | apply Kd.N_drew)); exact (Kd.N_mono (Kd.N_far (p := ⟨bz, 2, none⟩) (Kd.N_far (p := ⟨bz, 1, none⟩) (Kd.N_far (p := ⟨bz, 0, none⟩) (Kd.N_mono bB.out (fun k_ hk => (⟨hk, hk.2⟩ : _ ∧ k_ ≠ bz))) (fun _ hk => hk.2) (.slice Ao14 bD.length co14)) (fun _ hk => hk.2) (.slice Ao16 bE.length co16)) (fun _ hk => hk.2) (.int .i64 bF)) (fun _ h_ => h_.1))) hb); have bM := bu (Kd.R_below (by (with_reducible repeat (first | apply Kd.R_alloc | apply Kd.R_drewN | apply Kd.R_drew)); exact (Kd.R_mono (Kd.R_far (p := ⟨bz, 2, none⟩) (Kd.R_far (p := ⟨bz, 1, none⟩) (Kd.R_far (p := ⟨bz, 0, none⟩) (Kd.R_types bC.out bA.out (by decide)) (fun _ hk => hk.2) (.slice Ao14 bD.length co14)) (fun _ hk => hk.2) (.slice Ao16 bE.length co16)) (fun _ hk => hk.2) (.int .i64 bF)) (fun _ h_ => h_.1))) hb); have bN := bu (bl (g := bz) (o := .cells #[.slice Ao14 bD.length co14, .slice Ao16 bE.length co16, .int .i64 bF] 27 (0, 0)) (by (with_reducible repeat (first | refine a4 ?_ _ | refine bh ?_ | refine a5 ?_ _)); refine blk_put (cs := #[.slice Ao14 bD.length co14, .slice Ao16 bE.length co16, .int .i64 0]) ?_ 2 _ rfl; (with_reducible repeat (first | refine a4 ?_ _ | refine bh ?_ | refine a5 ?_ _)); refine blk_put (cs := #[.slice Ao14 bD.length co14, .slice none 0 0, .int .i64 0]) ?_ 1 _ rfl; (with_reducible repeat (first | refine a4 ?_ _ | refine bh ?_ | refine a5 ?_ _)); refine blk_put (cs := #[.slice none 0 0, .slice none 0 0, .int .i64 0]) ?_ 0 _ rfl; (with_reducible repeat (first | refine a4 ?_ _ | refine bh ?_ | refine a5 ?_ _)); exact bA.out) hb); have n3_ := bu (below_step (by repeat (first | (with_reducible first | exact HB.out | apply bm | apply bj | apply bn | refine bi ?_ bO.out) | exact HB.out)) hb); clear bB; clear bC; clear bA; clear HB; have bB := bL; have bC := bM; have bA := bN; have HB := n3_; clear bL bM bN n3_; (try clear hb); (try clear hb2); (try clear hk); (try clear hi)) | ((with_reducible refine bv (f := 12) rfl ?_); refine goesL_ (some 16) rfl rfl Tryd.func12 (by kernel_rfl) rfl #[.int .i64 t189] rfl (by (try simp only [List.map_toArray, List.map_cons, List.map_nil]); first | done | rfl | (simp only [List.length_drop, List.length_take]; rfl)) ?_; (with_reducible refine (cowrielaw20_num.calls t189 bK _ A3.out).mono ?_); rintro e w' ⟨rfl, ⟨nd, rfl⟩⟩; refine ⟨_, rfl, ?_⟩))
   go_ret
   exact ⟨by first | rfl | (simp [errW_none, errW_some] <;> rfl) | (simp [*, errW_none, errW_some] <;> rfl), by repeat (first | (with_reducible first | exact HB.out | apply bm | apply bj | apply bn | refine bi ?_ bO.out) | exact HB.out)⟩
 ·
  rw [if_neg c4] at H
  have c4b0 : (bK == 0) = false := beq_eq_false_iff_ne.mpr c4
  have c4b1 : (bK != 0) = true := bne_iff_ne.mpr c4
  obtain rfl := Option.some.inj H
  go_enter Tryd.func6, Tryd.ntmps6
  go_wp2_with (first | ((with_reducible refine bv (f := 11) rfl ?_); refine goesL_ (some 7) rfl rfl Tryd.func11 (by kernel_rfl) rfl #[.agg #[.slice none 0 0, .slice none 0 0, .int .i64 0], .string (⟨#[120]⟩ : ByteArray), .string (⟨#[97]⟩ : ByteArray)] rfl (by (try simp only [List.map_toArray, List.map_cons, List.map_nil]); first | done | rfl | (simp only [List.length_drop, List.length_take]; rfl)) ?_; (refine (vars_Put.calls k _ _ ([] : List (S53)) _ _ ([] : List ByteArray) 0 (⟨#[120]⟩ : ByteArray) (⟨#[97]⟩ : ByteArray) bD bE bF t189 _ ?bG ?bH ?bI ?bJ A1.out).mono ?_); (case bG => exact Kd.C_nil _ _); (case bH => exact Nat.le_refl _); (case bI => exact Kd.C_nil _ _); (case bJ => exact Nat.le_refl _); rintro e w18 ⟨v183, v186, rfl, ho0, ho1, hb⟩; refine ⟨_, rfl, ?_⟩; have bL := bu (Kd.N_lower (Kd.N_mono (ok' := fun k_ => some k_ ≠ (v186 : Value).ownBlock) ho0 (fun k_ hk_ => hk_.2)) (bs (by repeat (first | (with_reducible first | exact HB.out | apply bm | apply bj | apply bn) | exact HB.out)))); have bM := bu (Kd.R_lower (Kd.R_mono (ok' := fun k_ => True) ho1 (fun _ hk_ => trivial)) (bs (by repeat (first | (with_reducible first | exact HB.out | apply bm | apply bj | apply bn) | exact HB.out)))); have bN := bu (below_step (by repeat (first | (with_reducible first | exact HB.out | apply bm | apply bj | apply bn) | exact HB.out)) hb); clear HB; have bB := bL; have bC := bM; have HB := bN; clear bL bM bN; (try clear hb); (try clear hb2); (try clear hk); (try clear hi); (try clear ho0); (try clear ho1)) | ((with_reducible refine gate_dst (N := 1) rfl ?_); refine box_event ?hg (N := 1) ?hd (cs := #[.slice none 0 0, .slice none 0 0, .int .i64 0]) (t := 27) ?hr ?_; (case hd => rfl); (case hg => rfl); (case hr => first | (go_simp; done) | (go_simp; rfl)); intro bz hg w19 hbox hb; have bL := bu (Kd.N_below (Kd.N_elderB (by (with_reducible repeat (first | apply Kd.N_alloc | apply Kd.N_drewN | apply Kd.N_drew)); exact bB.out) bz (Nat.le_of_eq hg.symm)) hb); have bM := bu (Kd.R_below (by (with_reducible repeat (first | apply Kd.R_alloc | apply Kd.R_drewN | apply Kd.R_drew)); exact bC.out) hb); have bN := bu (below_step (by repeat (first | (with_reducible first | exact HB.out | apply bm | apply bj | apply bn) | exact HB.out)) hb); have n3_ := bu (hbox); have n4_ := bu ((by rw [hg]; exact (bs (by repeat (first | (with_reducible first | exact HB.out | apply bm | apply bj | apply bn) | exact HB.out))) : w.heap.size ≤ bz)); have n5_ := bu ((by rw [hg]; exact (bs (by repeat (first | (with_reducible first | exact HB.out | apply bm | apply bj | apply bn) | exact HB.out))) : w.heap.size ≤ bz)); clear bB; clear bC; clear HB; have bB := bL; have bC := bM; have HB := bN; have bA := n3_; have GW190 := n4_; have bO := n5_; clear bL bM bN n3_ n4_ n5_; clear hb hbox hg; obtain ⟨Ao20, co20, eo20⟩ := Kd.N_slice bB.out; subst eo20; have hcz21_0 : w19.cell? ⟨bz, 0, none⟩ = some (.slice none 0 0) := (bo bA.out 0).trans rfl; have hcz21_1 : w19.cell? ⟨bz, 1, none⟩ = some (.slice none 0 0) := (bo bA.out 1).trans rfl; have hcz21_2 : w19.cell? ⟨bz, 2, none⟩ = some (.int .i64 0) := (bo bA.out 2).trans rfl; have hfz21_0 := bk bA.out 0; have hfz21_1 := bk bA.out 1; have hfz21_2 := bk bA.out 2; obtain ⟨Ao22, co22, eo22⟩ := Kd.R_slice bC.out; subst eo22) | ((with_reducible refine bv (f := 14) rfl ?_); refine goesL_ (some 12) rfl rfl Tryd.func14 (by kernel_rfl) rfl #[.agg #[.slice Ao20 bD.length co20, .slice Ao22 bE.length co22, .int .i64 bF], .string (⟨#[120]⟩ : ByteArray)] rfl (by (try simp only [List.map_toArray, List.map_cons, List.map_nil]); first | done | rfl | (simp only [List.length_drop, List.length_take]; rfl)) ?_; (with_reducible refine (vars_Text.calls k _ _ bD _ _ bE bF (⟨#[120]⟩ : ByteArray) t191 t192 _ ?bG ?bH ?bI ?bJ A2.out).mono ?_); (case bG => refine (Kd.N_reads' (e := 53) (base := w.heap.size) (ok := fun k_ => (some k_ ≠ (.slice Ao22 bE.length co22 : Value).ownBlock ∧ k_ ≠ bz)) (n := bD.length) (c := co20) ?_).2.2; exact (by (with_reducible repeat (first | apply Kd.N_alloc | apply Kd.N_drewN | apply Kd.N_drew)); exact (Kd.N_mono (Kd.N_far (p := ⟨bz, 2, none⟩) (Kd.N_far (p := ⟨bz, 1, none⟩) (Kd.N_far (p := ⟨bz, 0, none⟩) (Kd.N_mono bB.out (fun k_ hk => (⟨hk, hk.2⟩ : _ ∧ k_ ≠ bz))) (fun _ hk => hk.2) (.slice Ao20 bD.length co20)) (fun _ hk => hk.2) (.slice Ao22 bE.length co22)) (fun _ hk => hk.2) (.int .i64 bF)) (fun _ h_ => h_.1)))); (case bH => exact (Kd.N_reads' bB.out).2.1); (case bI => refine (Kd.R_reads' (e := 9) (base := w.heap.size) (ok := fun k_ => True) (n := bE.length) (c := co22) ?_).2.2; exact (by (with_reducible repeat (first | apply Kd.R_alloc | apply Kd.R_drewN | apply Kd.R_drew)); exact (Kd.R_mono (Kd.R_far (p := ⟨bz, 2, none⟩) (Kd.R_far (p := ⟨bz, 1, none⟩) (Kd.R_far (p := ⟨bz, 0, none⟩) (Kd.R_types bC.out bA.out (by decide)) (fun _ hk => hk.2) (.slice Ao20 bD.length co20)) (fun _ hk => hk.2) (.slice Ao22 bE.length co22)) (fun _ hk => hk.2) (.int .i64 bF)) (fun _ h_ => h_.1)))); (case bJ => exact (Kd.R_reads' bC.out).2.1); rintro e w23 ⟨rfl, hb⟩; refine ⟨_, rfl, ?_⟩; have bL := bu (Kd.N_below (by (with_reducible repeat (first | apply Kd.N_alloc | apply Kd.N_drewN | apply Kd.N_drew)); exact (Kd.N_mono (Kd.N_far (p := ⟨bz, 2, none⟩) (Kd.N_far (p := ⟨bz, 1, none⟩) (Kd.N_far (p := ⟨bz, 0, none⟩) (Kd.N_mono bB.out (fun k_ hk => (⟨hk, hk.2⟩ : _ ∧ k_ ≠ bz))) (fun _ hk => hk.2) (.slice Ao20 bD.length co20)) (fun _ hk => hk.2) (.slice Ao22 bE.length co22)) (fun _ hk => hk.2) (.int .i64 bF)) (fun _ h_ => h_.1))) hb); have bM := bu (Kd.R_below (by (with_reducible repeat (first | apply Kd.R_alloc | apply Kd.R_drewN | apply Kd.R_drew)); exact (Kd.R_mono (Kd.R_far (p := ⟨bz, 2, none⟩) (Kd.R_far (p := ⟨bz, 1, none⟩) (Kd.R_far (p := ⟨bz, 0, none⟩) (Kd.R_types bC.out bA.out (by decide)) (fun _ hk => hk.2) (.slice Ao20 bD.length co20)) (fun _ hk => hk.2) (.slice Ao22 bE.length co22)) (fun _ hk => hk.2) (.int .i64 bF)) (fun _ h_ => h_.1))) hb); have bN := bu (bl (g := bz) (o := .cells #[.slice Ao20 bD.length co20, .slice Ao22 bE.length co22, .int .i64 bF] 27 (0, 0)) (by (with_reducible repeat (first | refine a4 ?_ _ | refine bh ?_ | refine a5 ?_ _)); refine blk_put (cs := #[.slice Ao20 bD.length co20, .slice Ao22 bE.length co22, .int .i64 0]) ?_ 2 _ rfl; (with_reducible repeat (first | refine a4 ?_ _ | refine bh ?_ | refine a5 ?_ _)); refine blk_put (cs := #[.slice Ao20 bD.length co20, .slice none 0 0, .int .i64 0]) ?_ 1 _ rfl; (with_reducible repeat (first | refine a4 ?_ _ | refine bh ?_ | refine a5 ?_ _)); refine blk_put (cs := #[.slice none 0 0, .slice none 0 0, .int .i64 0]) ?_ 0 _ rfl; (with_reducible repeat (first | refine a4 ?_ _ | refine bh ?_ | refine a5 ?_ _)); exact bA.out) hb); have n3_ := bu (below_step (by repeat (first | (with_reducible first | exact HB.out | apply bm | apply bj | apply bn | refine bi ?_ bO.out) | exact HB.out)) hb); clear bB; clear bC; clear bA; clear HB; have bB := bL; have bC := bM; have bA := bN; have HB := n3_; clear bL bM bN n3_; (try clear hb); (try clear hb2); (try clear hk); (try clear hi)) | ((with_reducible refine bv (f := 12) rfl ?_); refine goesL_ (some 16) rfl rfl Tryd.func12 (by kernel_rfl) rfl #[.int .i64 t189] rfl (by (try simp only [List.map_toArray, List.map_cons, List.map_nil]); first | done | rfl | (simp only [List.length_drop, List.length_take]; rfl)) ?_; (with_reducible refine (cowrielaw20_num.calls t189 bK _ A3.out).mono ?_); rintro e w' ⟨rfl, ⟨nd, rfl⟩⟩; refine ⟨_, rfl, ?_⟩))
  go_ret
  exact ⟨by first | rfl | (simp [errW_none, errW_some] <;> rfl) | (simp [*, errW_none, errW_some] <;> rfl), by repeat (first | (with_reducible first | exact HB.out | apply bm | apply bj | apply bn | refine bi ?_ bO.out) | exact HB.out)⟩

/-! ### cowrieplain_CopyTexts: function 24 -/
def cowrieplain_CopyTexts.f (l0 : List ByteArray) : Option (List ByteArray) := if ([] : List ByteArray).length + l0.length < 8796093022208 then (some (([] : List ByteArray) ++ l0)) else (none)
set_option maxHeartbeats 8000000 in
set_option maxRecDepth 100000 in
theorem cowrieplain_CopyTexts.calls (A0 : Option Addr) (c0 : Nat) (l0 : List ByteArray) (r : List ByteArray) (w : World) (hr0 : Kd.C Kd.string w A0 l0.length l0) (hc0 : l0.length ≤ c0) (h : cowrieplain_CopyTexts.f l0 = some r) :
  Calls Tryd.prog 24 #[.slice A0 l0.length c0] w fun e w' => ∃ v0_ : Value, e = .returned (v0_) ∧ Kd.R Kd.string 9 w' w.heap.size (fun _ => True) v0_ r ∧ Below w.heap.size w w' := by
 have HR0 := bu hr0
 have HC0 := bu hc0
 clear hr0 hc0
 have HB := bu (bw w.heap.size w)
 have H : (if ([] : List ByteArray).length + l0.length < 8796093022208 then (some (([] : List ByteArray) ++ l0)) else (none)) = some r := h
 clear h
 by_cases c2 : ([] : List ByteArray).length + l0.length < 8796093022208
 ·
  rw [if_pos c2] at H
  have LMc2 := bu c2
  clear c2
  obtain ⟨y194, hy194⟩ : ∃ y_ : List ByteArray, y_ = (([] : List ByteArray) ++ l0) := ⟨_, rfl⟩
  replace H : (some y194) = some r := by first | (rw [hy194]; with_reducible exact H) | (have H2_ := (Option.bind_some _ _).symm.trans H; rw [hy194]; with_reducible exact H2_) | (have H2_ := (Option.bind_some _ _).symm.trans H; with_reducible exact H2_) | with_reducible exact H | (rw [hy194]; exact H) | exact H
  have Ny194 := bu hy194
  clear hy194
  obtain rfl := Option.some.inj H
  go_enter Tryd.func24, Tryd.ntmps24
  go_wp2_with (first | ((with_reducible refine gate_builtin (b := .append) (xs := #[.tmp 4, .tmp 5]) rfl ?_); at_builtin; refine Kd.R_append_rows Kd.string (w0 := w) w.heap.size rfl (.tmp 4) (.tmp 5) 23 9 (.string ⟨#[]⟩) 16 rfl Tryd.underlying23 info9 rfl (by decide) (by omega) (.slice none 0 0) ([] : List ByteArray) l0 _ _ _ (fun _ => True) (fun _ => False) rfl rfl ?aO ?aR (fun _ _ h => h) (fun _ h => h.elim) ?aF ?aB ?aS ?aL ?_; (case aR => repeat (first | exact HR0.out | (with_reducible refine bp ?_ _) | (with_reducible refine bq ?_ _) | (with_reducible refine Kd.C_drew ?_))); (case aB => exact (by repeat (first | (with_reducible first | exact HB.out | apply bm | apply bj | apply bn) | exact HB.out))); (case aF => exact (fun _ _ => trivial)); (case aO => exact ((Kd.R_nil _ _ _ _ (fun _ => True)))); (case aS => exact (bs (by repeat (first | (with_reducible first | exact HB.out | apply bm | apply bj | apply bn) | exact HB.out)))); (case aL => have := LMc2.out; omega); intro v195 w3 ho hb hg hat; rw [← Ny194.out] at ho; have n0_ := bu (hb); have n1_ := bu (ho); clear HB; have HB := n0_; have HO196 := n1_; clear n0_ n1_; clear ho hb hg hat))
  go_ret
  exact ⟨_, by first | rfl | (simp [errW_none, errW_some] <;> rfl) | (simp [*, errW_none, errW_some] <;> rfl), by (with_reducible repeat (first | apply Kd.R_alloc | apply Kd.R_drewN | apply Kd.R_drew)); exact HO196.out, by repeat (first | (with_reducible first | exact HB.out | apply bm | apply bj | apply bn) | exact HB.out)⟩
 ·
  rw [if_neg c2] at H
  exact absurd H (by simp)

/-! ### cowrieplain_CopyVars: function 23 -/
def cowrieplain_CopyVars.l0 : Nat → List (S53) → List (S53) → Int → Option ((List (S53)))
  | 0, _, _, _ => none
  | k + 1, x0, x3, x4 => if x4 < (x0.length : Int) then (if 0 ≤ x4 then ((cowrieplain_CopyTexts.f ((rd_T53 x0 x4).f3)).bind fun t199 => (if x3.length < 2199023255552 then (cowrieplain_CopyVars.l0 k x0 (x3 ++ [(⟨(rd_T53 x0 x4).f0, (rd_T53 x0 x4).f1, (rd_T53 x0 x4).f2, t199⟩ : S53)]) (wrap64 (x4 + 1))) else (none))) else (none)) else (some x3)
def cowrieplain_CopyVars.f (k : Nat) (l0 : List (S53)) : Option ((List (S53))) := cowrieplain_CopyVars.l0 k l0 ([] : List (S53)) 0
set_option maxHeartbeats 8000000 in
set_option maxRecDepth 100000 in
theorem cowrieplain_CopyVars.calls (k : Nat) (A0 : Option Addr) (c0 : Nat) (l0 : List (S53)) (r : List (S53)) (w : World) (hr0 : Kd.C k53 w A0 l0.length l0) (hc0 : l0.length ≤ c0) (h : cowrieplain_CopyVars.f k l0 = some r) :
  Calls Tryd.prog 23 #[.slice A0 l0.length c0] w fun e w' => ∃ v0_ : Value, e = .returned (v0_) ∧ Kd.S k53 53 w' w.heap.size (fun _ => True) v0_ r ∧ Below w.heap.size w w' := by
 have hu53 := Tryd.underlying53
 have HR0 := bu hr0
 have HC0 := bu hc0
 clear hr0 hc0
 have HB := bu (bw w.heap.size w)
 have H : (cowrieplain_CopyVars.l0 k l0 ([] : List (S53)) 0) = some r := h
 clear h
 have H' := bu H
 clear H
 go_enter Tryd.func23, Tryd.ntmps23
 go_wp2
 go_loopg [3, 4] k (fun kq v3 v4 w' => ∃ (x3_1 : List (S53)) (bz : Int), v4 = .int .i64 bz ∧ Aside0 (cowrieplain_CopyVars.l0 kq l0 x3_1 bz = some r) ∧ Aside0 (kq ≤ k) ∧ Aside0 (Kd.S k53 53 w' w.heap.size (fun _ => True) v3 x3_1) ∧ Aside0 (Below w.heap.size w w'))
 case atStart => exact ⟨(([] : List (S53))), (0), (by first | rfl | (simp; done) | (simp [*]; done)), H', ⟨Nat.le_refl _⟩, ⟨by first | exact Kd.S_nil _ _ _ _ _ | exact Kd.N_nil _ _ _ _ _ | exact Kd.V_nil _ _ _ _ _ | exact Kd.Q_nil _ _ _ _ _ | exact Kd.R_nil _ _ _ _ _⟩, ⟨by repeat (first | (with_reducible first | exact HB.out | apply bm | apply bj | apply bn) | exact HB.out)⟩⟩
 case round =>
  clear H'
  obtain ⟨x3_1, bz, rfl, HA, HK1, bD, HB⟩ := hrel
  cases gk with
  | zero => exact absurd HA.out (by simp [cowrieplain_CopyVars.l0])
  | succ k1 =>
   have H := HA.out
   clear HA
   simp only [cowrieplain_CopyVars.l0] at H
   by_cases c2 : bz < (l0.length : Int)
   ·
    rw [if_pos c2] at H
    have c2b0 : decide (bz < (l0.length : Int)) = true := decide_eq_true c2
    clear c2
    by_cases c3 : 0 ≤ bz
    ·
     rw [if_pos c3] at H
     have c3b0 : decide (0 ≤ bz) = true := decide_eq_true c3
     clear c3
     replace H := Option.bind_eq_some_iff.mp H
     obtain ⟨bC, A40, H⟩ := H
     replace H : (if x3_1.length < 2199023255552 then (cowrieplain_CopyVars.l0 k1 l0 (x3_1 ++ [(⟨(rd_T53 l0 bz).f0, (rd_T53 l0 bz).f1, (rd_T53 l0 bz).f2, bC⟩ : S53)]) (wrap64 (bz + 1))) else (none)) = some r := H
     have A4 := bu A40
     clear A40
     by_cases c5 : x3_1.length < 2199023255552
     ·
      rw [if_pos c5] at H
      have LMc5 := bu c5
      clear c5
      obtain ⟨y202, hy202⟩ : ∃ y_ : List (S53), y_ = (x3_1 ++ [(⟨(rd_T53 l0 bz).f0, (rd_T53 l0 bz).f1, (rd_T53 l0 bz).f2, bC⟩ : S53)]) := ⟨_, rfl⟩
      replace H : (cowrieplain_CopyVars.l0 k1 l0 y202 (wrap64 (bz + 1))) = some r := by first | (rw [hy202]; with_reducible exact H) | (have H2_ := (Option.bind_some _ _).symm.trans H; rw [hy202]; with_reducible exact H2_) | (have H2_ := (Option.bind_some _ _).symm.trans H; with_reducible exact H2_) | with_reducible exact H | (rw [hy202]; exact H) | exact H
      have Ny202 := bu hy202
      clear hy202
      have H' := bu H
      clear H
      have p197 : 0 ≤ (bz : Int) := of_decide_eq_true (by first | (with_reducible assumption) | assumption)
      have q197 : bz < (l0.length : Int) := of_decide_eq_true (by first | (with_reducible assumption) | assumption)
      obtain ⟨ad197, A197_3, c197_3, e197, hx197_0, hx197_1, hx197_2, hx197_3, hl197_3, hi197_3⟩ := at_T53 HR0.out bz p197 q197
      cases e197
      replace hx197_0 := (HB.out.cell (World.block_lt_of_cell? w _ hx197_0)).trans hx197_0
      replace hx197_1 := (HB.out.cell (World.block_lt_of_cell? w _ hx197_1)).trans hx197_1
      replace hx197_2 := (HB.out.cell (World.block_lt_of_cell? w _ hx197_2)).trans hx197_2
      replace hx197_3 := (HB.out.cell (World.block_lt_of_cell? w _ hx197_3)).trans hx197_3
      have HR197_3 := bu hi197_3
      have HC197_3 := bu hl197_3
      clear hi197_3 hl197_3
      replace p197 := eq_true p197
      replace q197 := eq_true q197
      go_wp2_with (first | ((with_reducible refine gate_dst (N := 5) rfl ?_); refine box_event ?hg (N := 5) ?hd (cs := #[.string (⟨#[]⟩ : ByteArray), .string (⟨#[]⟩ : ByteArray), .bool false, .slice none 0 0]) (t := 53) ?hr ?_; (case hd => rfl); (case hg => rfl); (case hr => first | (go_simp; done) | (go_simp; rfl)); intro bB hg w6 hbox hb; have n0_ := bu (Kd.S_below (Kd.S_elderB (by (with_reducible repeat (first | apply Kd.S_alloc | apply Kd.S_drewN | apply Kd.S_drew)); exact bD.out) bB (Nat.le_of_eq hg.symm)) hb); have n1_ := bu (below_step (by repeat (first | (with_reducible first | exact HB.out | apply bm | apply bj | apply bn) | exact HB.out)) hb); have n2_ := bu (hbox); have n3_ := bu ((by rw [hg]; exact (bs (by repeat (first | (with_reducible first | exact HB.out | apply bm | apply bj | apply bn) | exact HB.out))) : w.heap.size ≤ bB)); have n4_ := bu ((by rw [hg]; exact (bs (by repeat (first | (with_reducible first | exact HB.out | apply bm | apply bj | apply bn) | exact HB.out))) : w.heap.size ≤ bB)); clear bD; clear HB; have bD := n0_; have HB := n1_; have bA := n2_; have GW198 := n3_; have GE198 := n4_; clear n0_ n1_ n2_ n3_ n4_; clear hb hbox hg; have hcz7_0 : w6.cell? ⟨bB, 0, none⟩ = some (.string (⟨#[]⟩ : ByteArray)) := (bo bA.out 0).trans rfl; have hcz7_1 : w6.cell? ⟨bB, 1, none⟩ = some (.string (⟨#[]⟩ : ByteArray)) := (bo bA.out 1).trans rfl; have hcz7_2 : w6.cell? ⟨bB, 2, none⟩ = some (.bool false) := (bo bA.out 2).trans rfl; have hcz7_3 : w6.cell? ⟨bB, 3, none⟩ = some (.slice none 0 0) := (bo bA.out 3).trans rfl; have hfz7_0 := bk bA.out 0; have hfz7_1 := bk bA.out 1; have hfz7_2 := bk bA.out 2; have hfz7_3 := bk bA.out 3) | ((with_reducible refine bv (f := 24) rfl ?_); refine goesL_ (some 18) rfl rfl Tryd.func24 (by kernel_rfl) rfl #[.slice A197_3 ((rd_T53 l0 bz).f3).length c197_3] rfl (by (try simp only [List.map_toArray, List.map_cons, List.map_nil]); first | done | rfl | (simp only [List.length_drop, List.length_take]; rfl)) ?_; (with_reducible refine (cowrieplain_CopyTexts.calls _ _ ((rd_T53 l0 bz).f3) bC _ ?side1 ?side2 A4.out).mono ?_); (case side1 => exact br HR197_3.out (by repeat (first | (with_reducible first | exact HB.out | apply bm | apply bj | apply bn | refine bi ?_ GE198.out) | exact HB.out))); (case side2 => exact HC197_3.out); rintro e w8 ⟨v200, rfl, ho0, hb⟩; refine ⟨_, rfl, ?_⟩; have n0_ := bu (Kd.S_elder' (by (with_reducible repeat (first | apply Kd.S_alloc | apply Kd.S_drewN | apply Kd.S_drew)); exact (Kd.S_mono (Kd.S_far (p := ⟨bB, 3, none⟩) (Kd.S_far (p := ⟨bB, 2, none⟩) (Kd.S_far (p := ⟨bB, 1, none⟩) (Kd.S_far (p := ⟨bB, 0, none⟩) (Kd.S_mono bD.out (fun k_ hk => (⟨hk, hk.2⟩ : _ ∧ k_ ≠ bB))) (fun _ hk => hk.2) (.string ((rd_T53 l0 bz).f0))) (fun _ hk => hk.2) (.string ((rd_T53 l0 bz).f1))) (fun _ hk => hk.2) (.bool ((rd_T53 l0 bz).f2))) (fun _ hk => hk.2) (.slice A197_3 ((rd_T53 l0 bz).f3).length c197_3)) (fun _ h_ => h_.1))) (Kd.R_base ho0) hb); have n1_ := bu (Kd.R_lower ho0 (bs (by repeat (first | (with_reducible first | exact HB.out | apply bm | apply bj | apply bn | refine bi ?_ GE198.out) | exact HB.out)))); have n2_ := bu (bl (g := bB) (o := .cells #[.string ((rd_T53 l0 bz).f0), .string ((rd_T53 l0 bz).f1), .bool ((rd_T53 l0 bz).f2), .slice A197_3 ((rd_T53 l0 bz).f3).length c197_3] 53 (0, 0)) (by (with_reducible repeat (first | refine a4 ?_ _ | refine bh ?_ | refine a5 ?_ _)); refine blk_put (cs := #[.string ((rd_T53 l0 bz).f0), .string ((rd_T53 l0 bz).f1), .bool ((rd_T53 l0 bz).f2), .slice none 0 0]) ?_ 3 _ rfl; (with_reducible repeat (first | refine a4 ?_ _ | refine bh ?_ | refine a5 ?_ _)); refine blk_put (cs := #[.string ((rd_T53 l0 bz).f0), .string ((rd_T53 l0 bz).f1), .bool false, .slice none 0 0]) ?_ 2 _ rfl; (with_reducible repeat (first | refine a4 ?_ _ | refine bh ?_ | refine a5 ?_ _)); refine blk_put (cs := #[.string ((rd_T53 l0 bz).f0), .string (⟨#[]⟩ : ByteArray), .bool false, .slice none 0 0]) ?_ 1 _ rfl; (with_reducible repeat (first | refine a4 ?_ _ | refine bh ?_ | refine a5 ?_ _)); refine blk_put (cs := #[.string (⟨#[]⟩ : ByteArray), .string (⟨#[]⟩ : ByteArray), .bool false, .slice none 0 0]) ?_ 0 _ rfl; (with_reducible repeat (first | refine a4 ?_ _ | refine bh ?_ | refine a5 ?_ _)); exact bA.out) hb); have n3_ := bu (below_step (by repeat (first | (with_reducible first | exact HB.out | apply bm | apply bj | apply bn | refine bi ?_ GE198.out) | exact HB.out)) hb); clear bD; clear bA; clear HB; have bD := n0_; have HO201 := n1_; have bA := n2_; have HB := n3_; clear n0_ n1_ n2_ n3_; (try clear hb); (try clear hb2); (try clear hk); (try clear hi); (try clear ho0); obtain ⟨Ao9, co9, eo9⟩ := Kd.R_slice HO201.out; subst eo9; have hcz10_0 : w8.cell? ⟨bB, 0, none⟩ = some (.string ((rd_T53 l0 bz).f0)) := (bo bA.out 0).trans rfl; have hcz10_1 : w8.cell? ⟨bB, 1, none⟩ = some (.string ((rd_T53 l0 bz).f1)) := (bo bA.out 1).trans rfl; have hcz10_2 : w8.cell? ⟨bB, 2, none⟩ = some (.bool ((rd_T53 l0 bz).f2)) := (bo bA.out 2).trans rfl; have hcz10_3 : w8.cell? ⟨bB, 3, none⟩ = some (.slice A197_3 ((rd_T53 l0 bz).f3).length c197_3) := (bo bA.out 3).trans rfl; have hfz10_0 := bk bA.out 0; have hfz10_1 := bk bA.out 1; have hfz10_2 := bk bA.out 2; have hfz10_3 := bk bA.out 3) | ((with_reducible refine gate_store (t := 23) (p := 19) rfl ?_); refine store_event (t := 23) (p := 19) (v := ?vo_w11) (w1 := (w8.setCell ⟨bB, 3, none⟩ (.slice Ao9 bC.length co9))) ?hg ?ho ?hn ?hr ?_; (case ho => rfl); (case hg => rfl); (case hn => rfl); (case hr => first | (go_simp; done) | (go_simp; rfl)); intro w11 hw; have n0_ : Aside0 (Kd.S k53 53 w11 w.heap.size (fun k_ => some k_ ≠ (.slice Ao9 bC.length co9 : Value).ownBlock ∧ k_ ≠ bB) u3 x3_1) := ⟨(by rw [hw]; exact (by (with_reducible repeat (first | apply Kd.S_alloc | apply Kd.S_drewN | apply Kd.S_drew)); exact Kd.S_mono (Kd.S_far (p := ⟨bB, 3, none⟩) (Kd.S_mono bD.out (fun k_ hk => (⟨hk, hk.1.2⟩ : _ ∧ k_ ≠ bB))) (fun _ hk => hk.2) (.slice Ao9 bC.length co9)) (fun _ hk => ⟨hk.1.2, hk.1.1.2⟩)))⟩; have n1_ : Aside0 (Kd.R Kd.string 9 w11 w.heap.size (fun _ => True) (.slice Ao9 bC.length co9) bC) := ⟨(by rw [hw]; exact (by (with_reducible repeat (first | apply Kd.R_alloc | apply Kd.R_drewN | apply Kd.R_drew)); exact Kd.R_mono (Kd.R_far (p := ⟨bB, 3, none⟩) (Kd.R_types HO201.out bA.out (by decide)) (fun _ hk => hk.2) (.slice Ao9 bC.length co9)) (fun _ hk => trivial)))⟩; have n2_ : Aside0 (w11.heap[bB]? = some (.cells #[.string ((rd_T53 l0 bz).f0), .string ((rd_T53 l0 bz).f1), .bool ((rd_T53 l0 bz).f2), .slice Ao9 bC.length co9] 53 (0, 0))) := ⟨(by rw [hw]; exact (by (with_reducible repeat (first | refine a4 ?_ _ | refine bh ?_ | refine a5 ?_ _)); refine blk_put (cs := #[.string ((rd_T53 l0 bz).f0), .string ((rd_T53 l0 bz).f1), .bool ((rd_T53 l0 bz).f2), .slice A197_3 ((rd_T53 l0 bz).f3).length c197_3]) ?_ 3 _ rfl; (with_reducible repeat (first | refine a4 ?_ _ | refine bh ?_ | refine a5 ?_ _)); exact bA.out))⟩; have n3_ : Aside0 (Below w.heap.size w w11) := ⟨(by rw [hw]; exact (by repeat (first | (with_reducible first | exact HB.out | apply bm | apply bj | apply bn | refine bi ?_ GE198.out) | exact HB.out)))⟩; clear hw; clear bD; clear HO201; clear bA; clear HB; have bD := n0_; have HO201 := n1_; have bA := n2_; have HB := n3_; clear n0_ n1_ n2_ n3_; have hcz12_0 : w11.cell? ⟨bB, 0, none⟩ = some (.string ((rd_T53 l0 bz).f0)) := (bo bA.out 0).trans rfl; have hcz12_1 : w11.cell? ⟨bB, 1, none⟩ = some (.string ((rd_T53 l0 bz).f1)) := (bo bA.out 1).trans rfl; have hcz12_2 : w11.cell? ⟨bB, 2, none⟩ = some (.bool ((rd_T53 l0 bz).f2)) := (bo bA.out 2).trans rfl; have hcz12_3 : w11.cell? ⟨bB, 3, none⟩ = some (.slice Ao9 bC.length co9) := (bo bA.out 3).trans rfl; have hfz12_0 := bk bA.out 0; have hfz12_1 := bk bA.out 1; have hfz12_2 := bk bA.out 2; have hfz12_3 := bk bA.out 3) | ((with_reducible refine gate_builtin (b := .append) (xs := #[.tmp 20, .tmp 22]) rfl ?_); at_builtin; refine Kd.S_append k53 (w0 := w) w.heap.size rfl (.tmp 20) (.tmp 22) 22 53 (.agg #[(.string ⟨#[]⟩), (.string ⟨#[]⟩), (.bool false), (.slice none 0 0)]) 64 rfl Tryd.underlying22 info53 rfl (by decide) (by omega) u3 x3_1 (⟨(rd_T53 l0 bz).f0, (rd_T53 l0 bz).f1, (rd_T53 l0 bz).f2, bC⟩ : S53) [.string ((rd_T53 l0 bz).f0), .string ((rd_T53 l0 bz).f1), .bool ((rd_T53 l0 bz).f2), .slice Ao9 bC.length co9] (fun k_ => k_ ≠ bB) (fun k_ => some k_ = (.slice Ao9 bC.length co9 : Value).ownBlock) rfl rfl ?aP (fun k_ hk_ => ((Kd.R_mono (ok' := fun k_ => ((fun k_ => k_ ≠ bB)) k_ ∧ some k_ ≠ (u3 : Value).ownBlock) (Kd.R_types (Kd.R_apart' (HO201.out) (Kd.S_typed bD.out) (by decide)) bA.out (by decide)) (fun k_ hk => ⟨hk.2, hk.1.2⟩))).1 k_ hk_.symm) ?aF ?aO ?aB ?aS ?aL ?_; (case aP => exact k53_mkM _ _ _ (⟨(rd_T53 l0 bz).f0, (rd_T53 l0 bz).f1, (rd_T53 l0 bz).f2, bC⟩ : S53) (Kd.R_mono (Kd.R_tight rfl (Kd.R_mono (ok' := fun k_ => ((fun k_ => k_ ≠ bB)) k_ ∧ some k_ ≠ (u3 : Value).ownBlock) (Kd.R_types (Kd.R_apart' (HO201.out) (Kd.S_typed bD.out) (by decide)) bA.out (by decide)) (fun k_ hk => ⟨hk.2, hk.1.2⟩))) (fun _ h_ => h_))); (case aB => exact (by repeat (first | (with_reducible first | exact HB.out | apply bm | apply bj | apply bn | refine bi ?_ GE198.out) | exact HB.out))); (case aF => exact (fun k_ hk => Kd.freshB (g := bB) (o := .cells #[.string ((rd_T53 l0 bz).f0), .string ((rd_T53 l0 bz).f1), .bool ((rd_T53 l0 bz).f2), .slice Ao9 bC.length co9] 53 (0, 0)) (by (with_reducible repeat (first | refine a4 ?_ _ | refine bh ?_ | refine a5 ?_ _)); exact bA.out) k_ hk)); (case aO => exact (by (with_reducible repeat (first | apply Kd.S_alloc | apply Kd.S_drewN | apply Kd.S_drew)); exact Kd.S_mono bD.out (fun k_ hk => ⟨hk.2, fun e_ => hk.1 e_⟩))); (case aS => exact (bs (by repeat (first | (with_reducible first | exact HB.out | apply bm | apply bj | apply bn | refine bi ?_ GE198.out) | exact HB.out)))); (case aL => have := LMc5.out; omega); intro v203 w13 ho hb hg hat; rw [← Ny202.out] at ho; have n0_ := bu (blk_grown (g := bB) (o := .cells #[.string ((rd_T53 l0 bz).f0), .string ((rd_T53 l0 bz).f1), .bool ((rd_T53 l0 bz).f2), .slice Ao9 bC.length co9] 53 (0, 0)) (by (with_reducible repeat (first | refine a4 ?_ _ | refine bh ?_ | refine a5 ?_ _)); exact bA.out) hg (Kd.S_away bD.out (fun _ hk => hk.2))); have n1_ := bu (hb); have n2_ := bu (ho); clear bA; clear HB; clear bD; clear HO201; have bA := n0_; have HB := n1_; have HO204 := n2_; clear n0_ n1_ n2_; clear ho hb hg hat))
      go_roundg k1
      case measure => have := HK1.out; omega
      case rel => exact ⟨(y202), (wrap64 (bz + 1)), (by first | rfl | (simp; done) | (simp [*]; done)), H', ⟨by have := HK1.out; omega⟩, ⟨by (with_reducible repeat (first | apply Kd.S_alloc | apply Kd.S_drewN | apply Kd.S_drew)); exact Kd.S_mono HO204.out (fun _ hk => trivial)⟩, ⟨by repeat (first | (with_reducible first | exact HB.out | apply bm | apply bj | apply bn | refine bi ?_ GE198.out) | exact HB.out)⟩⟩
     ·
      rw [if_neg c5] at H
      exact absurd H (by simp)
    ·
     rw [if_neg c3] at H
     exact absurd H (by simp)
   ·
    rw [if_neg c2] at H
    have c2b0 : decide (bz < (l0.length : Int)) = false := decide_eq_false c2
    clear c2
    obtain rfl := Option.some.inj H
    go_wp2
    go_ret
    exact ⟨_, by first | rfl | (simp [errW_none, errW_some] <;> rfl) | (simp [*, errW_none, errW_some] <;> rfl), by (with_reducible repeat (first | apply Kd.S_alloc | apply Kd.S_drewN | apply Kd.S_drew)); exact bD.out, by repeat (first | (with_reducible first | exact HB.out | apply bm | apply bj | apply bn) | exact HB.out)⟩

/-! ### cowrielaw20_Of: function 8 -/
def cowrielaw20_Of.f (k : Nat) (l0_0 : List (S53)) (l0_1 : List ByteArray) (a0_2 : Int) : Option ((List (S53)) × List ByteArray × Int) := (cowrieplain_CopyVars.f k l0_0).bind fun t207 => ((cowrieplain_CopyTexts.f l0_1).bind fun t210 => (some (t207, t210, a0_2)))
def cowrielaw20_Of.T1 : Bool × List (List Nat × List Nat) := (true, [([], []), ([0], [0]), ([1], [1]), ([], []), ([3], [3]), ([4, 2], [4]), ([], []), ([6], [6]), ([2, 5, 7], [2, 5, 7]), ([8, 5, 0, 1, 2, 3, 4, 5, 6, 7, 8], [8])])
def cowrielaw20_Of.B1 : List Nat := [0, 1, 3, 0, 8, 31, 0, 64, 255, 511]
theorem cowrielaw20_Of.tab1 : rtab .any (opsOf Tryd.f8 1) = cowrielaw20_Of.T1 := by kernel_rfl
theorem cowrielaw20_Of.bits1 : waitsOk cowrielaw20_Of.T1.2 cowrielaw20_Of.B1 = true := by kernel_rfl
set_option maxHeartbeats 8000000 in
set_option maxRecDepth 100000 in
theorem cowrielaw20_Of.calls (k : Nat) (A0_0 : Option Addr) (c0_0 : Nat) (bF : List (S53)) (A0_1 : Option Addr) (c0_1 : Nat) (bE : List ByteArray) (bG : Int) (r1 : List (S53)) (r2 : List ByteArray) (r3 : Int) (w : World) (hr0_0 : Kd.C k53 w A0_0 bF.length bF) (hc0_0 : bF.length ≤ c0_0) (hr0_1 : Kd.C Kd.string w A0_1 bE.length bE) (hc0_1 : bE.length ≤ c0_1) (h : cowrielaw20_Of.f k bF bE bG = some (r1, r2, r3)) :
  Calls Tryd.prog 8 #[.agg #[.slice A0_0 bF.length c0_0, .slice A0_1 bE.length c0_1, .int .i64 bG]] w fun e w' => ∃ v0_ v1_ : Value, e = .returned (.agg #[v0_, v1_, .int .i64 r3]) ∧ Kd.S k53 53 w' w.heap.size (fun k_ => some k_ ≠ (v1_ : Value).ownBlock) v0_ r1 ∧ Kd.R Kd.string 9 w' w.heap.size (fun _ => True) v1_ r2 ∧ Below w.heap.size w w' := by
 have hu25 := Tryd.underlying25
 have hu27 := Tryd.underlying27
 have HR0_0 := bu hr0_0
 have HC0_0 := bu hc0_0
 clear hr0_0 hc0_0
 have HR0_1 := bu hr0_1
 have HC0_1 := bu hc0_1
 clear hr0_1 hc0_1
 have HB := bu (bw w.heap.size w)
 have H : ((cowrieplain_CopyVars.f k bF).bind fun t207 => ((cowrieplain_CopyTexts.f bE).bind fun t210 => (some (t207, t210, bG)))) = some (r1, r2, r3) := h
 clear h
 replace H := Option.bind_eq_some_iff.mp H
 obtain ⟨t207, A20, H⟩ := H
 replace H : ((cowrieplain_CopyTexts.f bE).bind fun t210 => (some (t207, t210, bG))) = some (r1, r2, r3) := H
 have A2 := bu A20
 clear A20
 replace H := Option.bind_eq_some_iff.mp H
 obtain ⟨t210, A30, H⟩ := H
 replace H : (some (t207, t210, bG)) = some (r1, r2, r3) := H
 have A3 := bu A30
 clear A30
 simp only [Option.some.injEq, Prod.mk.injEq] at H
 obtain ⟨rfl, rfl, rfl⟩ := H
 go_enter Tryd.func8, Tryd.ntmps8
 try go_wp2_with (first | ((with_reducible refine gate_dst (N := 1) rfl ?_); refine box_event ?hg (N := 1) ?hd (cs := #[.slice A0_0 bF.length c0_0, .slice A0_1 bE.length c0_1, .int .i64 bG]) (t := 25) ?hr ?_; (case hd => rfl); (case hg => rfl); (case hr => first | (go_simp; done) | (go_simp; rfl)); intro bD hg w4 hbox hb; have n0_ := bu (below_step (by repeat (first | (with_reducible first | exact HB.out | apply bm | apply bj | apply bn) | exact HB.out)) hb); have n1_ := bu (hbox); have n2_ := bu ((by rw [hg]; exact (bs (by repeat (first | (with_reducible first | exact HB.out | apply bm | apply bj | apply bn) | exact HB.out))) : w.heap.size ≤ bD)); have n3_ := bu ((by rw [hg]; exact (bs (by repeat (first | (with_reducible first | exact HB.out | apply bm | apply bj | apply bn) | exact HB.out))) : w.heap.size ≤ bD)); clear HB; have HB := n0_; have bB := n1_; have GW205 := n2_; have bI := n3_; clear n0_ n1_ n2_ n3_; clear hb hbox hg) | ((with_reducible refine gate_dst (N := 2) rfl ?_); refine box_event ?hg (N := 2) ?hd (cs := #[.slice none 0 0, .slice none 0 0, .int .i64 0]) (t := 27) ?hr ?_; (case hd => rfl); (case hg => rfl); (case hr => first | (go_simp; done) | (go_simp; rfl)); intro bA hg w5 hbox hb; have n0_ := bu (bl (g := bD) (o := .cells #[.slice A0_0 bF.length c0_0, .slice A0_1 bE.length c0_1, .int .i64 bG] 25 (0, 0)) (by (with_reducible repeat (first | refine a4 ?_ _ | refine bh ?_ | refine a5 ?_ _)); exact bB.out) hb); have n1_ := bu (below_step (by repeat (first | (with_reducible first | exact HB.out | apply bm | apply bj | apply bn | refine bi ?_ bI.out) | exact HB.out)) hb); have n2_ := bu (hbox); have n3_ := bu ((by rw [hg]; exact (bs (by repeat (first | (with_reducible first | exact HB.out | apply bm | apply bj | apply bn | refine bi ?_ bI.out) | exact HB.out))) : w.heap.size ≤ bA)); have n4_ := bu ((by rw [hg]; exact (bs (by repeat (first | (with_reducible first | exact HB.out | apply bm | apply bj | apply bn | refine bi ?_ bI.out) | exact HB.out))) : w.heap.size ≤ bA)); have n5_ := bu ((by rw [hg]; exact Nat.ne_of_lt (blk_lt (g := bD) (o := .cells #[.slice A0_0 bF.length c0_0, .slice A0_1 bE.length c0_1, .int .i64 bG] 25 (0, 0)) (by (with_reducible repeat (first | refine a4 ?_ _ | refine bh ?_ | refine a5 ?_ _)); exact bB.out)) : bD ≠ bA)); have n6_ := bu ((by rw [hg]; exact Nat.ne_of_gt (blk_lt (g := bD) (o := .cells #[.slice A0_0 bF.length c0_0, .slice A0_1 bE.length c0_1, .int .i64 bG] 25 (0, 0)) (by (with_reducible repeat (first | refine a4 ?_ _ | refine bh ?_ | refine a5 ?_ _)); exact bB.out)) : bA ≠ bD)); clear bB; clear HB; have bB := n0_; have HB := n1_; have bC := n2_; have GW206 := n3_; have GE206 := n4_; have bz := n5_; have bH := n6_; clear n0_ n1_ n2_ n3_ n4_ n5_ n6_; clear hb hbox hg))
 have n0_ := bu (bh bB.out)
 have n1_ := bu (bh bC.out)
 have n2_ := bu (bn HB.out)
 clear bB
 clear bC
 clear HB
 have bB := n0_
 have bC := n1_
 have HB := n2_
 clear n0_ n1_ n2_
 refine start_ (n := 10) (S := fun w' => w'.cell? ⟨bD, 0, none⟩ = some (.slice A0_0 bF.length c0_0) ∧ w'.cell? ⟨bD, 1, none⟩ = some (.slice A0_1 bE.length c0_1) ∧ w'.cell? ⟨bD, 2, none⟩ = some (.int .i64 bG)) (ds := []) #[false, false, false, false, false, false, false, false, false, false] (by kernel_rfl) rfl rfl ⟨(bo bB.out 0).trans rfl, (bo bB.out 1).trans rfl, (bo bB.out 2).trans rfl⟩ (fun hHeld => ?_); refine with_tabW cowrielaw20_Of.tab1 cowrielaw20_Of.bits1 (fun HT_ HW_ => ?_)
 generalize w5.drew = w6 at bB bC HB hHeld ⊢
 refine pure_ (i := 0) (N := some 3) (v := ?_) (a' := ?_) #[true, false, false, false, false, false, false, false, false, false] rfl rfl (any_of HT_.out (by kernel_rfl)) (fun _ _ _ h => h) (Or.inl ⟨by rfl, ?_⟩) ?_ ?_
 rotate_left
 ·
  intro w'
  go_simp
  with_reducible rfl
 rotate_left
 ·
  simp only [Act.put, List.setIfInBounds_toArray, List.set_cons_zero, List.set_cons_succ, i64_w, i32_w]
  rfl
 refine pure_ (i := 3) (N := some 6) (v := ?_) (a' := ?_) #[true, false, false, true, false, false, false, false, false, false] rfl rfl (any_of HT_.out (by kernel_rfl)) (fun _ _ _ h => h) (Or.inl ⟨by rfl, ?_⟩) ?_ ?_
 rotate_left
 ·
  intro w'
  go_simp
  with_reducible rfl
 rotate_left
 ·
  simp only [Act.put, List.setIfInBounds_toArray, List.set_cons_zero, List.set_cons_succ, i64_w, i32_w]
  rfl
 refine pure_ (i := 6) (N := some 9) (v := ?_) (a' := ?_) #[true, false, false, true, false, false, true, false, false, false] rfl rfl (any_of HT_.out (by kernel_rfl)) (fun _ _ _ h => h) (Or.inl ⟨by rfl, ?_⟩) ?_ ?_
 rotate_left
 ·
  intro w'
  go_simp
  with_reducible rfl
 rotate_left
 ·
  simp only [Act.put, List.setIfInBounds_toArray, List.set_cons_zero, List.set_cons_succ, i64_w, i32_w]
  rfl
 refine take_ (i := 1) (N := some 4) (v := ?_) (a' := ?_) #[true, true, false, true, false, false, true, false, false, false] rfl rfl (take_ofW HT_.out HW_.out (by kernel_rfl)) (fun _ _ _ h => h) (Or.inl ⟨by rfl, ?_⟩) hHeld ?_ ?_
 rotate_left
 ·
  rintro w' ⟨s0, s1, s2⟩
  go_simp
  with_reducible rfl
 rotate_left
 ·
  simp only [Act.put, List.setIfInBounds_toArray, List.set_cons_zero, List.set_cons_succ, i64_w, i32_w]
  rfl
 refine take_ (i := 4) (N := some 7) (v := ?_) (a' := ?_) #[true, true, false, true, true, false, true, false, false, false] rfl rfl (take_ofW HT_.out HW_.out (by kernel_rfl)) (fun _ _ _ h => h) (Or.inl ⟨by rfl, ?_⟩) hHeld ?_ ?_
 rotate_left
 ·
  rintro w' ⟨s0, s1, s2⟩
  go_simp
  with_reducible rfl
 rotate_left
 ·
  simp only [Act.put, List.setIfInBounds_toArray, List.set_cons_zero, List.set_cons_succ, i64_w, i32_w]
  rfl
 refine take_ (i := 7) (N := some 10) (v := ?_) (a' := ?_) #[true, true, false, true, true, false, true, true, false, false] rfl rfl (take_ofW HT_.out HW_.out (by kernel_rfl)) (fun _ _ _ h => h) (Or.inl ⟨by rfl, ?_⟩) hHeld ?_ ?_
 rotate_left
 ·
  rintro w' ⟨s0, s1, s2⟩
  go_simp
  with_reducible rfl
 rotate_left
 ·
  simp only [Act.put, List.setIfInBounds_toArray, List.set_cons_zero, List.set_cons_succ, i64_w, i32_w]
  rfl
 refine one_ (i := 2) (N := some 5) #[true, true, true, true, true, false, true, true, false, false] rfl rfl (one_of HT_.out (by kernel_rfl)) (by decide) (fun K hK => ?_)
 refine goes_ Tryd.func23 (by kernel_rfl) rfl #[.slice A0_0 bF.length c0_0] (by rfl) rfl rfl (by (try simp only [List.map_toArray, List.map_cons, List.map_nil]); first | done | rfl | (simp only [List.length_drop, List.length_take]; rfl)) ?_
 with_reducible refine (cowrieplain_CopyVars.calls k _ _ bF t207 _ ?side1 ?side2 A2.out).mono ?_
 (case side1 => repeat (first | exact (br HR0_0.out HB.out) | (with_reducible refine bp ?_ _) | (with_reducible refine bq ?_ _) | (with_reducible refine Kd.C_drew ?_)))
 (case side2 => exact HC0_0.out)
 rintro e w7 ⟨v208, rfl, ho0, hb⟩
 refine ⟨_, rfl, ?_⟩
 have n0_ := bu (Kd.S_lower ho0 (bs (by repeat (first | (with_reducible first | exact HB.out | apply bm | apply bj | apply bn | refine bi ?_ bI.out | refine bi ?_ GE206.out) | exact HB.out))))
 have n1_ := bu (bl (g := bD) (o := .cells #[.slice A0_0 bF.length c0_0, .slice A0_1 bE.length c0_1, .int .i64 bG] 25 (0, 0)) (by (with_reducible repeat (first | refine a4 ?_ _ | refine bh ?_ | refine a5 ?_ _)); exact bB.out) hb)
 have n2_ := bu (bl (g := bA) (o := .cells #[.slice none 0 0, .slice none 0 0, .int .i64 0] 27 (0, 0)) (by (with_reducible repeat (first | refine a4 ?_ _ | refine bh ?_ | refine a5 ?_ _)); exact bC.out) hb)
 have n3_ := bu (below_step (by repeat (first | (with_reducible first | exact HB.out | apply bm | apply bj | apply bn | refine bi ?_ bI.out | refine bi ?_ GE206.out) | exact HB.out)) hb)
 clear bB
 clear bC
 clear HB
 have HO209 := n0_
 have bB := n1_
 have bC := n2_
 have HB := n3_
 clear n0_ n1_ n2_ n3_
 (try clear hb)
 (try clear hb2)
 (try clear hk)
 (try clear hi)
 (try clear ho0)
 refine hK.out _ _ ⟨(bo bB.out 0).trans rfl, (bo bB.out 1).trans rfl, (bo bB.out 2).trans rfl⟩ (fun hHeld => ?_)
 clear hK K
 refine norm_ (a' := ?_) ?_ ?_
 rotate_left
 ·
  show Act.put _ (some 5) _ = _
  simp only [Act.put, List.setIfInBounds_toArray, List.set_cons_zero, List.set_cons_succ, i64_w, i32_w]
  rfl
 refine one_ (i := 5) (N := some 8) #[true, true, true, true, true, true, true, true, false, false] rfl rfl (one_of HT_.out (by kernel_rfl)) (by decide) (fun K hK => ?_)
 refine goes_ Tryd.func24 (by kernel_rfl) rfl #[.slice A0_1 bE.length c0_1] (by rfl) rfl rfl (by (try simp only [List.map_toArray, List.map_cons, List.map_nil]); first | done | rfl | (simp only [List.length_drop, List.length_take]; rfl)) ?_
 with_reducible refine (cowrieplain_CopyTexts.calls _ _ bE t210 _ ?side1 ?side2 A3.out).mono ?_
 (case side1 => repeat (first | exact (br HR0_1.out HB.out) | (with_reducible refine bp ?_ _) | (with_reducible refine bq ?_ _) | (with_reducible refine Kd.C_drew ?_)))
 (case side2 => exact HC0_1.out)
 rintro e w8 ⟨v211, rfl, ho0, hb⟩
 refine ⟨_, rfl, ?_⟩
 have n0_ := bu (Kd.S_elder' (by (with_reducible repeat (first | apply Kd.S_alloc | apply Kd.S_drewN | apply Kd.S_drew)); exact HO209.out) (Kd.R_base ho0) hb)
 have n1_ := bu (Kd.R_lower ho0 (bs (by repeat (first | (with_reducible first | exact HB.out | apply bm | apply bj | apply bn | refine bi ?_ bI.out | refine bi ?_ GE206.out) | exact HB.out))))
 have n2_ := bu (bl (g := bD) (o := .cells #[.slice A0_0 bF.length c0_0, .slice A0_1 bE.length c0_1, .int .i64 bG] 25 (0, 0)) (by (with_reducible repeat (first | refine a4 ?_ _ | refine bh ?_ | refine a5 ?_ _)); exact bB.out) hb)
 have n3_ := bu (bl (g := bA) (o := .cells #[.slice none 0 0, .slice none 0 0, .int .i64 0] 27 (0, 0)) (by (with_reducible repeat (first | refine a4 ?_ _ | refine bh ?_ | refine a5 ?_ _)); exact bC.out) hb)
 have n4_ := bu (below_step (by repeat (first | (with_reducible first | exact HB.out | apply bm | apply bj | apply bn | refine bi ?_ bI.out | refine bi ?_ GE206.out) | exact HB.out)) hb)
 clear HO209
 clear bB
 clear bC
 clear HB
 have HO209 := n0_
 have HO212 := n1_
 have bB := n2_
 have bC := n3_
 have HB := n4_
 clear n0_ n1_ n2_ n3_ n4_
 (try clear hb)
 (try clear hb2)
 (try clear hk)
 (try clear hi)
 (try clear ho0)
 obtain ⟨Ao9, co9, eo9⟩ := Kd.R_slice HO212.out
 (first | subst eo9 | (injection eo9 with f1_ f2_ f3_; have f4_ := f1_.symm; have f5_ := f3_.symm; clear f1_ f2_ f3_; subst f4_; subst f5_))
 obtain ⟨Ao10, co10, eo10⟩ := Kd.S_slice HO209.out
 (first | subst eo10 | (injection eo10 with f1_ f2_ f3_; have f4_ := f1_.symm; have f5_ := f3_.symm; clear f1_ f2_ f3_; subst f4_; subst f5_))
 refine hK.out _ _ ⟨(bo bB.out 0).trans rfl, (bo bB.out 1).trans rfl, (bo bB.out 2).trans rfl⟩ (fun hHeld => ?_)
 clear hK K
 refine norm_ (a' := ?_) ?_ ?_
 rotate_left
 ·
  show Act.put _ (some 8) _ = _
  simp only [Act.put, List.setIfInBounds_toArray, List.set_cons_zero, List.set_cons_succ, i64_w, i32_w]
  rfl
 refine pure_ (i := 8) (N := some 11) (v := ?_) (a' := ?_) #[true, true, true, true, true, true, true, true, true, false] rfl rfl (any_of HT_.out (by kernel_rfl)) (fun _ _ _ h => h) (Or.inl ⟨by rfl, ?_⟩) ?_ ?_
 rotate_left
 ·
  intro w'
  go_simp
  with_reducible rfl
 rotate_left
 ·
  simp only [Act.put, List.setIfInBounds_toArray, List.set_cons_zero, List.set_cons_succ, i64_w, i32_w]
  rfl
 refine one_ (i := 9) (N := none) #[true, true, true, true, true, true, true, true, true, true] rfl rfl (one_of HT_.out (by kernel_rfl)) (by decide) (fun K hK => ?_)
 have hs11 : w8.cell? ⟨bA, 0, none⟩ = some (.slice none 0 0) := (bo bC.out 0).trans rfl
 have hfs11 := bk bC.out 0
 have hns11_0 := bz.out
 have hms11_0 := bH.out
 have hs12 : w8.cell? ⟨bA, 1, none⟩ = some (.slice none 0 0) := (bo bC.out 1).trans rfl
 have hfs12 := bk bC.out 1
 have hns12_0 := bz.out
 have hms12_0 := bH.out
 have hs13 : w8.cell? ⟨bA, 2, none⟩ = some (.int .i64 0) := (bo bC.out 2).trans rfl
 have hfs13 := bk bC.out 2
 have hns13_0 := bz.out
 have hms13_0 := bH.out
 refine skip_ (w1 := ?_) (by rfl) rfl ?_ ?_
 rotate_left
 ·
  go_simp
  rfl
 refine hK.out _ _ ⟨((cell_far (p := ⟨bA, _, none⟩) bz.out _).trans (((cell_far (p := ⟨bA, _, none⟩) bz.out _).trans (((cell_far (p := ⟨bA, _, none⟩) bz.out _).trans (hHeld.1)))))), ((cell_far (p := ⟨bA, _, none⟩) bz.out _).trans (((cell_far (p := ⟨bA, _, none⟩) bz.out _).trans (((cell_far (p := ⟨bA, _, none⟩) bz.out _).trans (hHeld.2.1)))))), ((cell_far (p := ⟨bA, _, none⟩) bz.out _).trans (((cell_far (p := ⟨bA, _, none⟩) bz.out _).trans (((cell_far (p := ⟨bA, _, none⟩) bz.out _).trans (hHeld.2.2))))))⟩ (fun hHeld => ?_)
 clear hK K
 refine done_ (done_of HT_.out (by kernel_rfl)) ?_
 try go_wp2
 refine bodyPost_ret (results_cell_row rfl _ _ bA 27 #[.slice Ao10 t207.length co10, .slice Ao9 t210.length co9, .int .i64 bG] (0, 0) _ rfl (by (with_reducible repeat (first | refine a4 ?_ _ | refine bh ?_ | refine a5 ?_ _)); refine blk_put (cs := #[.slice Ao10 t207.length co10, .slice Ao9 t210.length co9, .int .i64 0]) ?_ 2 _ rfl; (with_reducible repeat (first | refine a4 ?_ _ | refine bh ?_ | refine a5 ?_ _)); refine blk_put (cs := #[.slice Ao10 t207.length co10, .slice none 0 0, .int .i64 0]) ?_ 1 _ rfl; (with_reducible repeat (first | refine a4 ?_ _ | refine bh ?_ | refine a5 ?_ _)); refine blk_put (cs := #[.slice none 0 0, .slice none 0 0, .int .i64 0]) ?_ 0 _ rfl; (with_reducible repeat (first | refine a4 ?_ _ | refine bh ?_ | refine a5 ?_ _)); exact bC.out) Tryd.underlying27 rfl (by kernel_rfl)) rfl ?_
 exact ⟨_, _, by first | rfl | (simp [errW_none, errW_some] <;> rfl) | (simp [*, errW_none, errW_some] <;> rfl), by (with_reducible repeat (first | apply Kd.S_alloc | apply Kd.S_drewN | apply Kd.S_drew)); exact Kd.S_mono (Kd.S_far (p := ⟨bA, 2, none⟩) (Kd.S_far (p := ⟨bA, 1, none⟩) (Kd.S_far (p := ⟨bA, 0, none⟩) (Kd.S_types HO209.out bC.out (by decide)) (fun _ hk => hk.2) (.slice Ao10 t207.length co10)) (fun _ hk => hk.2) (.slice Ao9 t210.length co9)) (fun _ hk => hk.2) (.int .i64 bG)) (fun _ hk => hk.1.2), by (with_reducible repeat (first | apply Kd.R_alloc | apply Kd.R_drewN | apply Kd.R_drew)); exact Kd.R_mono (Kd.R_far (p := ⟨bA, 2, none⟩) (Kd.R_far (p := ⟨bA, 1, none⟩) (Kd.R_far (p := ⟨bA, 0, none⟩) (Kd.R_types HO212.out bC.out (by decide)) (fun _ hk => hk.2) (.slice Ao10 t207.length co10)) (fun _ hk => hk.2) (.slice Ao9 t210.length co9)) (fun _ hk => hk.2) (.int .i64 bG)) (fun _ hk => trivial), by repeat (first | (with_reducible first | exact HB.out | apply bm | apply bj | apply bn | refine bi ?_ bI.out | refine bi ?_ GE206.out) | exact HB.out)⟩

end Go.Proofs.YtpljochiegallaaDoor.XVB
