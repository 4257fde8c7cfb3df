-- WRITTEN BY xprint.py, a program of this session (over the kit's print)
import Derived.Test.YtpljochiegallaaDoorQXVarsx0
import Derived.Test.YtpljochiegallaaDoorQXVarsx7
namespace Go.Proofs.YtpljochiegallaaDoor.XVars
open Go.RowKit Go.Proofs.YtpljochiegallaaDoorW.PrintWords Go.Proofs.YtpljochiegallaaDoorW.PrintLast Go.Proofs.YtpljochiegallaaDoorW.PrintMore
attribute [local go_sem] max2_int min2_int max_two min_two max_three min_three max_four min_four   -- for this text's walks alone
set_option linter.unusedVariables false
set_option linter.unusedSimpArgs false

/-! ### cowrieref20_Check: function 13 -/
mutual
def cowrieref20_Check.j0 : Nat → Bool → List (S53) → List ByteArray → Int → Option (Int)
  | 0, _, _, _, _ => none
  | k + 1, x31, x285000, x285001, x285002 => if x31 = true then (some 9) else (cowrieref20_Check.l0 k 0 x285000 x285001 x285002)
def cowrieref20_Check.l0 : Nat → Int → List (S53) → List ByteArray → Int → Option (Int)
  | 0, _, _, _, _ => none
  | k + 1, x3, x285000, x285001, x285002 => if x3 < (x285000.length : Int) then (if 0 ≤ x3 then ((cowrieref01_Name.f k ((rd_T53 x285000 x3).f0)).bind fun t288 => (if t288 = true then ((cowrieref20_text.f k ((rd_T53 x285000 x3).f1)).bind fun t289 => (if t289 = 0 then ((cowrieref20_texts.f k ((rd_T53 x285000 x3).f3)).bind fun t290 => (if t290 = 0 then (if (((rd_T53 x285000 x3).f3).length : Int) > 1024 then (cowrieref20_Check.j2 k x3 true x285000 x285001 x285002 ((rd_T53 x285000 x3).f0) ((rd_T53 x285000 x3).f1) ((rd_T53 x285000 x3).f2) ((rd_T53 x285000 x3).f3)) else (if (rd_T53 x285000 x3).f2 = true then (if ((rd_T53 x285000 x3).f1).toList = ([] : List UInt8) then (if ((rd_T53 x285000 x3).f2 = true) then (cowrieref20_Check.j2 k x3 false x285000 x285001 x285002 ((rd_T53 x285000 x3).f0) ((rd_T53 x285000 x3).f1) ((rd_T53 x285000 x3).f2) ((rd_T53 x285000 x3).f3)) else (cowrieref20_Check.j2 k x3 (decide ((((rd_T53 x285000 x3).f3).length : Int) > 0)) x285000 x285001 x285002 ((rd_T53 x285000 x3).f0) ((rd_T53 x285000 x3).f1) ((rd_T53 x285000 x3).f2) ((rd_T53 x285000 x3).f3))) else (cowrieref20_Check.j2 k x3 true x285000 x285001 x285002 ((rd_T53 x285000 x3).f0) ((rd_T53 x285000 x3).f1) ((rd_T53 x285000 x3).f2) ((rd_T53 x285000 x3).f3))) else (if ((rd_T53 x285000 x3).f2 = true) then (cowrieref20_Check.j2 k x3 false x285000 x285001 x285002 ((rd_T53 x285000 x3).f0) ((rd_T53 x285000 x3).f1) ((rd_T53 x285000 x3).f2) ((rd_T53 x285000 x3).f3)) else (cowrieref20_Check.j2 k x3 (decide ((((rd_T53 x285000 x3).f3).length : Int) > 0)) x285000 x285001 x285002 ((rd_T53 x285000 x3).f0) ((rd_T53 x285000 x3).f1) ((rd_T53 x285000 x3).f2) ((rd_T53 x285000 x3).f3))))) else (cowrieref20_Check.j2 k x3 true x285000 x285001 x285002 ((rd_T53 x285000 x3).f0) ((rd_T53 x285000 x3).f1) ((rd_T53 x285000 x3).f2) ((rd_T53 x285000 x3).f3)))) else (cowrieref20_Check.j2 k x3 true x285000 x285001 x285002 ((rd_T53 x285000 x3).f0) ((rd_T53 x285000 x3).f1) ((rd_T53 x285000 x3).f2) ((rd_T53 x285000 x3).f3)))) else (cowrieref20_Check.j2 k x3 true x285000 x285001 x285002 ((rd_T53 x285000 x3).f0) ((rd_T53 x285000 x3).f1) ((rd_T53 x285000 x3).f2) ((rd_T53 x285000 x3).f3)))) else (none)) else (some 0)
def cowrieref20_Check.j2 : Nat → Int → Bool → List (S53) → List ByteArray → Int → ByteArray → ByteArray → Bool → List ByteArray → Option (Int)
  | 0, _, _, _, _, _, _, _, _, _ => none
  | k + 1, x3, x85, x285000, x285001, x285002, x288000, x288001, x288002, x288003 => if x85 = true then (some 9) else (cowrieref20_Check.l1 k x3 0 x285000 x285001 x285002 x288000 x288001 x288002 x288003)
def cowrieref20_Check.l1 : Nat → Int → Int → List (S53) → List ByteArray → Int → ByteArray → ByteArray → Bool → List ByteArray → Option (Int)
  | 0, _, _, _, _, _, _, _, _, _ => none
  | k + 1, x3, x5, x285000, x285001, x285002, x288000, x288001, x288002, x288003 => if x5 < x3 then (if 0 ≤ x5 then (if x5 < (x285000.length : Int) then (if ((rd_T53 x285000 x5).f0).toList = x288000.toList then (some 9) else (cowrieref20_Check.l1 k x3 (wrap64 (x5 + 1)) x285000 x285001 x285002 x288000 x288001 x288002 x288003)) else (none)) else (none)) else (cowrieref20_Check.l0 k (wrap64 (x3 + 1)) x285000 x285001 x285002)
end
def cowrieref20_Check.f (k : Nat) (l0_0 : List (S53)) (l0_1 : List ByteArray) (a0_2 : Int) : Option (Int) := if (l0_0.length : Int) > 1024 then (cowrieref20_Check.j0 k true l0_0 l0_1 a0_2) else (if (l0_1.length : Int) > 1024 then (cowrieref20_Check.j0 k true l0_0 l0_1 a0_2) else ((cowrieref20_texts.f k l0_1).bind fun t285 => (if t285 = 0 then (if a0_2 < 0 then (cowrieref20_Check.j0 k true l0_0 l0_1 a0_2) else (cowrieref20_Check.j0 k (decide (a0_2 > 255)) l0_0 l0_1 a0_2)) else (cowrieref20_Check.j0 k true l0_0 l0_1 a0_2))))
theorem cowrieref20_Check.mono_l : ∀ k, (∀ y0 y1 y2 y3, LeO (cowrieref20_Check.j0 k y0 y1 y2 y3) (cowrieref20_Check.j0 (k + 1) y0 y1 y2 y3)) ∧ (∀ y0 y1 y2 y3, LeO (cowrieref20_Check.l0 k y0 y1 y2 y3) (cowrieref20_Check.l0 (k + 1) y0 y1 y2 y3)) ∧ (∀ y0 y1 y2 y3 y4 y5 y6 y7 y8, LeO (cowrieref20_Check.j2 k y0 y1 y2 y3 y4 y5 y6 y7 y8) (cowrieref20_Check.j2 (k + 1) y0 y1 y2 y3 y4 y5 y6 y7 y8)) ∧ (∀ y0 y1 y2 y3 y4 y5 y6 y7 y8, LeO (cowrieref20_Check.l1 k y0 y1 y2 y3 y4 y5 y6 y7 y8) (cowrieref20_Check.l1 (k + 1) y0 y1 y2 y3 y4 y5 y6 y7 y8))
  | 0 => ⟨fun _ _ _ _ r h => by simp [cowrieref20_Check.j0] at h, fun _ _ _ _ r h => by simp [cowrieref20_Check.l0] at h, fun _ _ _ _ _ _ _ _ _ r h => by simp [cowrieref20_Check.j2] at h, fun _ _ _ _ _ _ _ _ _ r h => by simp [cowrieref20_Check.l1] at h⟩
  | k + 1 => by
    obtain ⟨ih0, ih1, ih2, ih3⟩ := cowrieref20_Check.mono_l k
    refine ⟨?_, ?_, ?_, ?_⟩
    · intro y0 y1 y2 y3
      unfold cowrieref20_Check.j0
      repeat' first
      | (with_reducible exact ih0 _ _ _ _)
      | (with_reducible exact ih1 _ _ _ _)
      | (with_reducible exact ih2 _ _ _ _ _ _ _ _ _)
      | (with_reducible exact ih3 _ _ _ _ _ _ _ _ _)
      | (with_reducible exact cowrieref01_Name.mono _ _)
      | (with_reducible exact cowrieref20_text.mono _ _)
      | (with_reducible exact cowrieref20_texts.mono _ _)
      | (with_reducible exact LeO.refl _)
      | (with_reducible exact LeO.none _)
      | (with_reducible refine LeO.ite ?_ ?_)
      | (with_reducible refine LeO.bind ?_ (fun _ => ?_))
      | exact ih0 _ _ _ _
      | exact ih1 _ _ _ _
      | exact ih2 _ _ _ _ _ _ _ _ _
      | exact ih3 _ _ _ _ _ _ _ _ _
      | exact cowrieref01_Name.mono _ _
      | exact cowrieref20_text.mono _ _
      | exact cowrieref20_texts.mono _ _
      | exact LeO.none _
      | refine LeO.ite ?_ ?_
      | refine LeO.bind ?_ (fun _ => ?_)
    · intro y0 y1 y2 y3
      unfold cowrieref20_Check.l0
      repeat' first
      | (with_reducible exact ih0 _ _ _ _)
      | (with_reducible exact ih1 _ _ _ _)
      | (with_reducible exact ih2 _ _ _ _ _ _ _ _ _)
      | (with_reducible exact ih3 _ _ _ _ _ _ _ _ _)
      | (with_reducible exact cowrieref01_Name.mono _ _)
      | (with_reducible exact cowrieref20_text.mono _ _)
      | (with_reducible exact cowrieref20_texts.mono _ _)
      | (with_reducible exact LeO.refl _)
      | (with_reducible exact LeO.none _)
      | (with_reducible refine LeO.ite ?_ ?_)
      | (with_reducible refine LeO.bind ?_ (fun _ => ?_))
      | exact ih0 _ _ _ _
      | exact ih1 _ _ _ _
      | exact ih2 _ _ _ _ _ _ _ _ _
      | exact ih3 _ _ _ _ _ _ _ _ _
      | exact cowrieref01_Name.mono _ _
      | exact cowrieref20_text.mono _ _
      | exact cowrieref20_texts.mono _ _
      | exact LeO.none _
      | refine LeO.ite ?_ ?_
      | refine LeO.bind ?_ (fun _ => ?_)
    · intro y0 y1 y2 y3 y4 y5 y6 y7 y8
      unfold cowrieref20_Check.j2
      repeat' first
      | (with_reducible exact ih0 _ _ _ _)
      | (with_reducible exact ih1 _ _ _ _)
      | (with_reducible exact ih2 _ _ _ _ _ _ _ _ _)
      | (with_reducible exact ih3 _ _ _ _ _ _ _ _ _)
      | (with_reducible exact cowrieref01_Name.mono _ _)
      | (with_reducible exact cowrieref20_text.mono _ _)
      | (with_reducible exact cowrieref20_texts.mono _ _)
      | (with_reducible exact LeO.refl _)
      | (with_reducible exact LeO.none _)
      | (with_reducible refine LeO.ite ?_ ?_)
      | (with_reducible refine LeO.bind ?_ (fun _ => ?_))
      | exact ih0 _ _ _ _
      | exact ih1 _ _ _ _
      | exact ih2 _ _ _ _ _ _ _ _ _
      | exact ih3 _ _ _ _ _ _ _ _ _
      | exact cowrieref01_Name.mono _ _
      | exact cowrieref20_text.mono _ _
      | exact cowrieref20_texts.mono _ _
      | exact LeO.none _
      | refine LeO.ite ?_ ?_
      | refine LeO.bind ?_ (fun _ => ?_)
    · intro y0 y1 y2 y3 y4 y5 y6 y7 y8
      unfold cowrieref20_Check.l1
      repeat' first
      | (with_reducible exact ih0 _ _ _ _)
      | (with_reducible exact ih1 _ _ _ _)
      | (with_reducible exact ih2 _ _ _ _ _ _ _ _ _)
      | (with_reducible exact ih3 _ _ _ _ _ _ _ _ _)
      | (with_reducible exact cowrieref01_Name.mono _ _)
      | (with_reducible exact cowrieref20_text.mono _ _)
      | (with_reducible exact cowrieref20_texts.mono _ _)
      | (with_reducible exact LeO.refl _)
      | (with_reducible exact LeO.none _)
      | (with_reducible refine LeO.ite ?_ ?_)
      | (with_reducible refine LeO.bind ?_ (fun _ => ?_))
      | exact ih0 _ _ _ _
      | exact ih1 _ _ _ _
      | exact ih2 _ _ _ _ _ _ _ _ _
      | exact ih3 _ _ _ _ _ _ _ _ _
      | exact cowrieref01_Name.mono _ _
      | exact cowrieref20_text.mono _ _
      | exact cowrieref20_texts.mono _ _
      | exact LeO.none _
      | refine LeO.ite ?_ ?_
      | refine LeO.bind ?_ (fun _ => ?_)
theorem cowrieref20_Check.mono : ∀ a0 a1 a2 k, LeO (cowrieref20_Check.f k a0 a1 a2) (cowrieref20_Check.f (k + 1) a0 a1 a2) := by
  intro a0 a1 a2 k
  obtain ⟨ih0, ih1, ih2, ih3⟩ := cowrieref20_Check.mono_l k
  unfold cowrieref20_Check.f
  repeat' first
      | (with_reducible exact ih0 _ _ _ _)
      | (with_reducible exact ih1 _ _ _ _)
      | (with_reducible exact ih2 _ _ _ _ _ _ _ _ _)
      | (with_reducible exact ih3 _ _ _ _ _ _ _ _ _)
      | (with_reducible exact cowrieref01_Name.mono _ _)
      | (with_reducible exact cowrieref20_text.mono _ _)
      | (with_reducible exact cowrieref20_texts.mono _ _)
      | (with_reducible exact LeO.refl _)
      | (with_reducible exact LeO.none _)
      | (with_reducible refine LeO.ite ?_ ?_)
      | (with_reducible refine LeO.bind ?_ (fun _ => ?_))
      | exact ih0 _ _ _ _
      | exact ih1 _ _ _ _
      | exact ih2 _ _ _ _ _ _ _ _ _
      | exact ih3 _ _ _ _ _ _ _ _ _
      | exact cowrieref01_Name.mono _ _
      | exact cowrieref20_text.mono _ _
      | exact cowrieref20_texts.mono _ _
      | exact LeO.none _
      | refine LeO.ite ?_ ?_
      | refine LeO.bind ?_ (fun _ => ?_)
set_option maxHeartbeats 8000000 in
set_option maxRecDepth 100000 in
theorem cowrieref20_Check.calls (k : Nat) (A0_0 : Option Addr) (c0_0 : Nat) (l0_0 : List (S53)) (A0_1 : Option Addr) (c0_1 : Nat) (l0_1 : List ByteArray) (a0_2 : Int) (r : Int) (w : World) (hr0_0 : Kd.C k53 w A0_0 l0_0.length l0_0) (hc0_0 : l0_0.length ≤ c0_0) (hr0_1 : Kd.C Kd.string w A0_1 l0_1.length l0_1) (hc0_1 : l0_1.length ≤ c0_1) (h : cowrieref20_Check.f k l0_0 l0_1 a0_2 = some r) :
    Calls Tryd.prog 13 #[.agg #[.slice A0_0 l0_0.length c0_0, .slice A0_1 l0_1.length c0_1, .int .i64 a0_2]] w fun e w' => e = .returned (.int .i64 r) ∧ Below w.heap.size w w' := by
  have hu25 := Tryd.underlying25
  have hu53 := Tryd.underlying53
  have HR0_0 := Aside0.mk hr0_0
  have HC0_0 := Aside0.mk hc0_0
  clear hr0_0 hc0_0
  have HR0_1 := Aside0.mk hr0_1
  have HC0_1 := Aside0.mk hc0_1
  clear hr0_1 hc0_1
  have HB := Aside0.mk (Below.refl w.heap.size w)
  have H : (if (l0_0.length : Int) > 1024 then (cowrieref20_Check.j0 k true l0_0 l0_1 a0_2) else (if (l0_1.length : Int) > 1024 then (cowrieref20_Check.j0 k true l0_0 l0_1 a0_2) else ((cowrieref20_texts.f k l0_1).bind fun t285 => (if t285 = 0 then (if a0_2 < 0 then (cowrieref20_Check.j0 k true l0_0 l0_1 a0_2) else (cowrieref20_Check.j0 k (decide (a0_2 > 255)) l0_0 l0_1 a0_2)) else (cowrieref20_Check.j0 k true l0_0 l0_1 a0_2))))) = some r := h
  clear h
  have HC2 := Aside0.mk H
  clear H
  go_enter Tryd.func13, Tryd.ntmps13
  go_upto_region 1 with (first | ((with_reducible refine gate_dst (N := 1) rfl ?_); (try (refine gate_guard (by rfl) ?_; dsimp only)); refine box_event ?hg (N := 1) ?hd (cs := #[.slice A0_0 l0_0.length c0_0, .slice A0_1 l0_1.length c0_1, .int .i64 a0_2]) (t := 25) ?hr ?_; (case hd => rfl); (case hg => rfl); (case hr => first | (go_simp; done) | (go_simp; rfl)); intro gb284 hg w3 hbox hb; have n0_ := Aside0.mk (below_step (by repeat (first | (with_reducible first | exact HB.out | apply below_alloc | apply pw_below_drewN | apply below_drew1) | exact HB.out)) hb); have n1_ := Aside0.mk (hbox); have n2_ := Aside0.mk ((by rw [hg]; exact (below_size (by repeat (first | (with_reducible first | exact HB.out | apply below_alloc | apply pw_below_drewN | apply below_drew1) | exact HB.out))) : w.heap.size ≤ gb284)); have n3_ := Aside0.mk ((by rw [hg]; exact (below_size (by repeat (first | (with_reducible first | exact HB.out | apply below_alloc | apply pw_below_drewN | apply below_drew1) | exact HB.out))) : w.heap.size ≤ gb284)); clear HB; have HB := n0_; have BK284 := n1_; have GW284 := n2_; have GE284 := n3_; clear n0_ n1_ n2_ n3_; clear hb hbox hg))
  repeat (go_quiet (first | ((with_reducible refine gate_dst (N := 1) rfl ?_); (try (refine gate_guard (by rfl) ?_; dsimp only)); refine box_event ?hg (N := 1) ?hd (cs := #[.slice A0_0 l0_0.length c0_0, .slice A0_1 l0_1.length c0_1, .int .i64 a0_2]) (t := 25) ?hr ?_; (case hd => rfl); (case hg => rfl); (case hr => first | (go_simp; done) | (go_simp; rfl)); intro gb284 hg w3 hbox hb; have n0_ := Aside0.mk (below_step (by repeat (first | (with_reducible first | exact HB.out | apply below_alloc | apply pw_below_drewN | apply below_drew1) | exact HB.out)) hb); have n1_ := Aside0.mk (hbox); have n2_ := Aside0.mk ((by rw [hg]; exact (below_size (by repeat (first | (with_reducible first | exact HB.out | apply below_alloc | apply pw_below_drewN | apply below_drew1) | exact HB.out))) : w.heap.size ≤ gb284)); have n3_ := Aside0.mk ((by rw [hg]; exact (below_size (by repeat (first | (with_reducible first | exact HB.out | apply below_alloc | apply pw_below_drewN | apply below_drew1) | exact HB.out))) : w.heap.size ≤ gb284)); clear HB; have HB := n0_; have BK284 := n1_; have GW284 := n2_; have GE284 := n3_; clear n0_ n1_ n2_ n3_; clear hb hbox hg)); go_upto_region 1 with (first | ((with_reducible refine gate_dst (N := 1) rfl ?_); (try (refine gate_guard (by rfl) ?_; dsimp only)); refine box_event ?hg (N := 1) ?hd (cs := #[.slice A0_0 l0_0.length c0_0, .slice A0_1 l0_1.length c0_1, .int .i64 a0_2]) (t := 25) ?hr ?_; (case hd => rfl); (case hg => rfl); (case hr => first | (go_simp; done) | (go_simp; rfl)); intro gb284 hg w3 hbox hb; have n0_ := Aside0.mk (below_step (by repeat (first | (with_reducible first | exact HB.out | apply below_alloc | apply pw_below_drewN | apply below_drew1) | exact HB.out)) hb); have n1_ := Aside0.mk (hbox); have n2_ := Aside0.mk ((by rw [hg]; exact (below_size (by repeat (first | (with_reducible first | exact HB.out | apply below_alloc | apply pw_below_drewN | apply below_drew1) | exact HB.out))) : w.heap.size ≤ gb284)); have n3_ := Aside0.mk ((by rw [hg]; exact (below_size (by repeat (first | (with_reducible first | exact HB.out | apply below_alloc | apply pw_below_drewN | apply below_drew1) | exact HB.out))) : w.heap.size ≤ gb284)); clear HB; have HB := n0_; have BK284 := n1_; have GW284 := n2_; have GE284 := n3_; clear n0_ n1_ n2_ n3_; clear hb hbox hg)))
  (try simp only [Act.put, List.setIfInBounds_toArray, List.set_cons_zero, List.set_cons_succ])
  go_cut [31] (fun v31 wc => ∃ (kq : Nat) (x31_1 : Bool), v31 = .bool x31_1 ∧ Aside0 (cowrieref20_Check.j0 kq x31_1 l0_0 l0_1 a0_2 = some r) ∧ Aside0 (kq ≤ k) ∧ Aside0 (wc.heap[gb284]? = some (.cells #[(.slice A0_0 l0_0.length c0_0), (.slice A0_1 l0_1.length c0_1), .int .i64 a0_2] 25 (0, 0))) ∧ Aside0 (Below w.heap.size w wc))
  case first =>
    have H := HC2.out
    clear HC2
    by_cases c4 : (l0_0.length : Int) > 1024
    · rw [if_pos c4] at H
      have c4b0 : decide (1024 < (l0_0.length : Int)) = true := decide_eq_true c4
      have c4b1 : decide (1024 < l0_0.length) = true := decide_eq_true (by omega)
      clear c4
      (first | rw [c4b0] | (simp only [i64_w, i32_w]; rw [c4b0]) | skip)
      have H' := Aside0.mk H
      clear H
      have hcz5_0 : w3.cell? ⟨gb284, 0, none⟩ = some (.slice A0_0 l0_0.length c0_0) := (blk_cell BK284.out 0).trans rfl
      have hcz5_1 : w3.cell? ⟨gb284, 1, none⟩ = some (.slice A0_1 l0_1.length c0_1) := (blk_cell BK284.out 1).trans rfl
      have hcz5_2 : w3.cell? ⟨gb284, 2, none⟩ = some (.int .i64 a0_2) := (blk_cell BK284.out 2).trans rfl
      have hfz5_0 := blk_frozen BK284.out 0
      have hfz5_1 := blk_frozen BK284.out 1
      have hfz5_2 := blk_frozen BK284.out 2
      go_wp2
      repeat (go_quiet (fail); try go_wp2)
      go_meet
      case rel => exact ⟨_, (true), (by first | rfl | (simp; done) | (simp [*]; done)), H', ⟨by first | omega | exact Nat.le_refl _⟩, ⟨by (with_reducible repeat (first | refine blk_drewN ?_ _ | refine blk_drew ?_ | refine blk_alloc ?_ _)); exact BK284.out⟩, ⟨by repeat (first | (with_reducible first | exact HB.out | apply below_alloc | apply pw_below_drewN | apply below_drew1 | refine below_set ?_ GE284.out) | exact HB.out)⟩⟩
    · rw [if_neg c4] at H
      have c4b0 : decide (1024 < (l0_0.length : Int)) = false := decide_eq_false c4
      have c4b1 : decide (1024 < l0_0.length) = false := decide_eq_false (by omega)
      clear c4
      (first | rw [c4b0] | (simp only [i64_w, i32_w]; rw [c4b0]) | skip)
      by_cases c6 : (l0_1.length : Int) > 1024
      · rw [if_pos c6] at H
        have c6b0 : decide (1024 < (l0_1.length : Int)) = true := decide_eq_true c6
        have c6b1 : decide (1024 < l0_1.length) = true := decide_eq_true (by omega)
        clear c6
        have H' := Aside0.mk H
        clear H
        have hcz7_0 : w3.cell? ⟨gb284, 0, none⟩ = some (.slice A0_0 l0_0.length c0_0) := (blk_cell BK284.out 0).trans rfl
        have hcz7_1 : w3.cell? ⟨gb284, 1, none⟩ = some (.slice A0_1 l0_1.length c0_1) := (blk_cell BK284.out 1).trans rfl
        have hcz7_2 : w3.cell? ⟨gb284, 2, none⟩ = some (.int .i64 a0_2) := (blk_cell BK284.out 2).trans rfl
        have hfz7_0 := blk_frozen BK284.out 0
        have hfz7_1 := blk_frozen BK284.out 1
        have hfz7_2 := blk_frozen BK284.out 2
        go_wp2
        repeat (go_quiet (fail); try go_wp2)
        go_meet
        case rel => exact ⟨_, (true), (by first | rfl | (simp; done) | (simp [*]; done)), H', ⟨by first | omega | exact Nat.le_refl _⟩, ⟨by (with_reducible repeat (first | refine blk_drewN ?_ _ | refine blk_drew ?_ | refine blk_alloc ?_ _)); exact BK284.out⟩, ⟨by repeat (first | (with_reducible first | exact HB.out | apply below_alloc | apply pw_below_drewN | apply below_drew1 | refine below_set ?_ GE284.out) | exact HB.out)⟩⟩
      · rw [if_neg c6] at H
        have c6b0 : decide (1024 < (l0_1.length : Int)) = false := decide_eq_false c6
        have c6b1 : decide (1024 < l0_1.length) = false := decide_eq_false (by omega)
        clear c6
        replace H := Option.bind_eq_some_iff.mp H
        obtain ⟨t285, A80, H⟩ := H
        replace H : (if t285 = 0 then (if a0_2 < 0 then (cowrieref20_Check.j0 k true l0_0 l0_1 a0_2) else (cowrieref20_Check.j0 k (decide (a0_2 > 255)) l0_0 l0_1 a0_2)) else (cowrieref20_Check.j0 k true l0_0 l0_1 a0_2)) = some r := H
        have A8 := Aside0.mk A80
        clear A80
        by_cases c9 : t285 = 0
        · rw [if_pos c9] at H
          have c9b0 : (t285 == 0) = true := beq_iff_eq.mpr c9
          have c9b1 : (t285 != 0) = false := bne_eq_false_iff_eq.mpr c9
          clear c9
          by_cases c10 : a0_2 < 0
          · rw [if_pos c10] at H
            have c10b0 : decide (a0_2 < 0) = true := decide_eq_true c10
            clear c10
            have H' := Aside0.mk H
            clear H
            have hcz11_0 : w3.cell? ⟨gb284, 0, none⟩ = some (.slice A0_0 l0_0.length c0_0) := (blk_cell BK284.out 0).trans rfl
            have hcz11_1 : w3.cell? ⟨gb284, 1, none⟩ = some (.slice A0_1 l0_1.length c0_1) := (blk_cell BK284.out 1).trans rfl
            have hcz11_2 : w3.cell? ⟨gb284, 2, none⟩ = some (.int .i64 a0_2) := (blk_cell BK284.out 2).trans rfl
            have hfz11_0 := blk_frozen BK284.out 0
            have hfz11_1 := blk_frozen BK284.out 1
            have hfz11_2 := blk_frozen BK284.out 2
            go_wp2_with (first | (go_at_call 26; (with_reducible refine (cowrieref20_texts.calls k _ _ l0_1 t285 _ ?side1 ?side2 A8.out).mono ?_); (case side1 => repeat (first | exact (Kd.C_below HR0_1.out HB.out) | (with_reducible refine Kd.C_alloc ?_ _) | (with_reducible refine Kd.C_drewN ?_ _) | (with_reducible refine Kd.C_drew ?_))); (case side2 => exact HC0_1.out); rintro e w' ⟨rfl, ⟨nd, rfl⟩⟩; (try first | exact ⟨rfl, _, World.drewN_drewN _ _ _⟩ | exact ⟨rfl, _, Eq.trans (World.drewN_drewN _ _ _) (congrArg (World.drewN _) (Nat.add_assoc _ _ _))⟩)))
            repeat (go_quiet (first | (go_at_call 26; (with_reducible refine (cowrieref20_texts.calls k _ _ l0_1 t285 _ ?side1 ?side2 A8.out).mono ?_); (case side1 => repeat (first | exact (Kd.C_below HR0_1.out HB.out) | (with_reducible refine Kd.C_alloc ?_ _) | (with_reducible refine Kd.C_drewN ?_ _) | (with_reducible refine Kd.C_drew ?_))); (case side2 => exact HC0_1.out); rintro e w' ⟨rfl, ⟨nd, rfl⟩⟩; (try first | exact ⟨rfl, _, World.drewN_drewN _ _ _⟩ | exact ⟨rfl, _, Eq.trans (World.drewN_drewN _ _ _) (congrArg (World.drewN _) (Nat.add_assoc _ _ _))⟩))); try go_wp2_with (first | (go_at_call 26; (with_reducible refine (cowrieref20_texts.calls k _ _ l0_1 t285 _ ?side1 ?side2 A8.out).mono ?_); (case side1 => repeat (first | exact (Kd.C_below HR0_1.out HB.out) | (with_reducible refine Kd.C_alloc ?_ _) | (with_reducible refine Kd.C_drewN ?_ _) | (with_reducible refine Kd.C_drew ?_))); (case side2 => exact HC0_1.out); rintro e w' ⟨rfl, ⟨nd, rfl⟩⟩; (try first | exact ⟨rfl, _, World.drewN_drewN _ _ _⟩ | exact ⟨rfl, _, Eq.trans (World.drewN_drewN _ _ _) (congrArg (World.drewN _) (Nat.add_assoc _ _ _))⟩))))
            go_meet
            case rel => exact ⟨_, (true), (by first | rfl | (simp; done) | (simp [*]; done)), H', ⟨by first | omega | exact Nat.le_refl _⟩, ⟨by (with_reducible repeat (first | refine blk_drewN ?_ _ | refine blk_drew ?_ | refine blk_alloc ?_ _)); exact BK284.out⟩, ⟨by repeat (first | (with_reducible first | exact HB.out | apply below_alloc | apply pw_below_drewN | apply below_drew1 | refine below_set ?_ GE284.out) | exact HB.out)⟩⟩
          · rw [if_neg c10] at H
            have c10b0 : decide (a0_2 < 0) = false := decide_eq_false c10
            clear c10
            have H' := Aside0.mk H
            clear H
            have hcz12_0 : w3.cell? ⟨gb284, 0, none⟩ = some (.slice A0_0 l0_0.length c0_0) := (blk_cell BK284.out 0).trans rfl
            have hcz12_1 : w3.cell? ⟨gb284, 1, none⟩ = some (.slice A0_1 l0_1.length c0_1) := (blk_cell BK284.out 1).trans rfl
            have hcz12_2 : w3.cell? ⟨gb284, 2, none⟩ = some (.int .i64 a0_2) := (blk_cell BK284.out 2).trans rfl
            have hfz12_0 := blk_frozen BK284.out 0
            have hfz12_1 := blk_frozen BK284.out 1
            have hfz12_2 := blk_frozen BK284.out 2
            go_wp2_with (first | (go_at_call 26; (with_reducible refine (cowrieref20_texts.calls k _ _ l0_1 t285 _ ?side1 ?side2 A8.out).mono ?_); (case side1 => repeat (first | exact (Kd.C_below HR0_1.out HB.out) | (with_reducible refine Kd.C_alloc ?_ _) | (with_reducible refine Kd.C_drewN ?_ _) | (with_reducible refine Kd.C_drew ?_))); (case side2 => exact HC0_1.out); rintro e w' ⟨rfl, ⟨nd, rfl⟩⟩; (try first | exact ⟨rfl, _, World.drewN_drewN _ _ _⟩ | exact ⟨rfl, _, Eq.trans (World.drewN_drewN _ _ _) (congrArg (World.drewN _) (Nat.add_assoc _ _ _))⟩)))
            repeat (go_quiet (first | (go_at_call 26; (with_reducible refine (cowrieref20_texts.calls k _ _ l0_1 t285 _ ?side1 ?side2 A8.out).mono ?_); (case side1 => repeat (first | exact (Kd.C_below HR0_1.out HB.out) | (with_reducible refine Kd.C_alloc ?_ _) | (with_reducible refine Kd.C_drewN ?_ _) | (with_reducible refine Kd.C_drew ?_))); (case side2 => exact HC0_1.out); rintro e w' ⟨rfl, ⟨nd, rfl⟩⟩; (try first | exact ⟨rfl, _, World.drewN_drewN _ _ _⟩ | exact ⟨rfl, _, Eq.trans (World.drewN_drewN _ _ _) (congrArg (World.drewN _) (Nat.add_assoc _ _ _))⟩))); try go_wp2_with (first | (go_at_call 26; (with_reducible refine (cowrieref20_texts.calls k _ _ l0_1 t285 _ ?side1 ?side2 A8.out).mono ?_); (case side1 => repeat (first | exact (Kd.C_below HR0_1.out HB.out) | (with_reducible refine Kd.C_alloc ?_ _) | (with_reducible refine Kd.C_drewN ?_ _) | (with_reducible refine Kd.C_drew ?_))); (case side2 => exact HC0_1.out); rintro e w' ⟨rfl, ⟨nd, rfl⟩⟩; (try first | exact ⟨rfl, _, World.drewN_drewN _ _ _⟩ | exact ⟨rfl, _, Eq.trans (World.drewN_drewN _ _ _) (congrArg (World.drewN _) (Nat.add_assoc _ _ _))⟩))))
            go_meet
            case rel => exact ⟨_, (decide (a0_2 > 255)), (by first | rfl | (simp; done) | (simp [*]; done)), H', ⟨by first | omega | exact Nat.le_refl _⟩, ⟨by (with_reducible repeat (first | refine blk_drewN ?_ _ | refine blk_drew ?_ | refine blk_alloc ?_ _)); exact BK284.out⟩, ⟨by repeat (first | (with_reducible first | exact HB.out | apply below_alloc | apply pw_below_drewN | apply below_drew1 | refine below_set ?_ GE284.out) | exact HB.out)⟩⟩
        · rw [if_neg c9] at H
          have c9b0 : (t285 == 0) = false := beq_eq_false_iff_ne.mpr c9
          have c9b1 : (t285 != 0) = true := bne_iff_ne.mpr c9
          have H' := Aside0.mk H
          clear H
          have hcz13_0 : w3.cell? ⟨gb284, 0, none⟩ = some (.slice A0_0 l0_0.length c0_0) := (blk_cell BK284.out 0).trans rfl
          have hcz13_1 : w3.cell? ⟨gb284, 1, none⟩ = some (.slice A0_1 l0_1.length c0_1) := (blk_cell BK284.out 1).trans rfl
          have hcz13_2 : w3.cell? ⟨gb284, 2, none⟩ = some (.int .i64 a0_2) := (blk_cell BK284.out 2).trans rfl
          have hfz13_0 := blk_frozen BK284.out 0
          have hfz13_1 := blk_frozen BK284.out 1
          have hfz13_2 := blk_frozen BK284.out 2
          go_wp2_with (first | (go_at_call 26; (with_reducible refine (cowrieref20_texts.calls k _ _ l0_1 t285 _ ?side1 ?side2 A8.out).mono ?_); (case side1 => repeat (first | exact (Kd.C_below HR0_1.out HB.out) | (with_reducible refine Kd.C_alloc ?_ _) | (with_reducible refine Kd.C_drewN ?_ _) | (with_reducible refine Kd.C_drew ?_))); (case side2 => exact HC0_1.out); rintro e w' ⟨rfl, ⟨nd, rfl⟩⟩; (try first | exact ⟨rfl, _, World.drewN_drewN _ _ _⟩ | exact ⟨rfl, _, Eq.trans (World.drewN_drewN _ _ _) (congrArg (World.drewN _) (Nat.add_assoc _ _ _))⟩)))
          repeat (go_quiet (first | (go_at_call 26; (with_reducible refine (cowrieref20_texts.calls k _ _ l0_1 t285 _ ?side1 ?side2 A8.out).mono ?_); (case side1 => repeat (first | exact (Kd.C_below HR0_1.out HB.out) | (with_reducible refine Kd.C_alloc ?_ _) | (with_reducible refine Kd.C_drewN ?_ _) | (with_reducible refine Kd.C_drew ?_))); (case side2 => exact HC0_1.out); rintro e w' ⟨rfl, ⟨nd, rfl⟩⟩; (try first | exact ⟨rfl, _, World.drewN_drewN _ _ _⟩ | exact ⟨rfl, _, Eq.trans (World.drewN_drewN _ _ _) (congrArg (World.drewN _) (Nat.add_assoc _ _ _))⟩))); try go_wp2_with (first | (go_at_call 26; (with_reducible refine (cowrieref20_texts.calls k _ _ l0_1 t285 _ ?side1 ?side2 A8.out).mono ?_); (case side1 => repeat (first | exact (Kd.C_below HR0_1.out HB.out) | (with_reducible refine Kd.C_alloc ?_ _) | (with_reducible refine Kd.C_drewN ?_ _) | (with_reducible refine Kd.C_drew ?_))); (case side2 => exact HC0_1.out); rintro e w' ⟨rfl, ⟨nd, rfl⟩⟩; (try first | exact ⟨rfl, _, World.drewN_drewN _ _ _⟩ | exact ⟨rfl, _, Eq.trans (World.drewN_drewN _ _ _) (congrArg (World.drewN _) (Nat.add_assoc _ _ _))⟩))))
          go_meet
          case rel => exact ⟨_, (true), (by first | rfl | (simp; done) | (simp [*]; done)), H', ⟨by first | omega | exact Nat.le_refl _⟩, ⟨by (with_reducible repeat (first | refine blk_drewN ?_ _ | refine blk_drew ?_ | refine blk_alloc ?_ _)); exact BK284.out⟩, ⟨by repeat (first | (with_reducible first | exact HB.out | apply below_alloc | apply pw_below_drewN | apply below_drew1 | refine below_set ?_ GE284.out) | exact HB.out)⟩⟩
  case rest =>
    clear HC2
    try clear c1
    try clear p2
    try clear c4
    try clear c4b0
    try clear c4b1
    try clear c6
    try clear c6b0
    try clear c6b1
    try clear c9
    try clear c9b0
    try clear c9b1
    try clear c10
    try clear c10b0
    try clear c13
    try clear hcz11_0
    try clear hcz11_1
    try clear hcz11_2
    try clear hcz12_0
    try clear hcz12_1
    try clear hcz12_2
    try clear hcz13_0
    try clear hcz13_1
    try clear hcz13_2
    try clear hcz5_0
    try clear hcz5_1
    try clear hcz5_2
    try clear hcz7_0
    try clear hcz7_1
    try clear hcz7_2
    try clear hfz11_0
    try clear hfz11_1
    try clear hfz11_2
    try clear hfz12_0
    try clear hfz12_1
    try clear hfz12_2
    try clear hfz13_0
    try clear hfz13_1
    try clear hfz13_2
    try clear hfz5_0
    try clear hfz5_1
    try clear hfz5_2
    try clear hfz7_0
    try clear hfz7_1
    try clear hfz7_2
    obtain ⟨kq, x31_1, rfl, HA, HJ1, BK284, HB⟩ := hcut
    cases kq with
    | zero => exact absurd HA.out (by simp [cowrieref20_Check.j0])
    | succ kj1 =>
      have H := HA.out
      clear HA
      simp only [cowrieref20_Check.j0] at H
      by_cases c14 : x31_1 = true
      · subst c14
        have H1 : (some 9) = some r := by rw [if_pos rfl] at H; exact H
        clear H
        have H := H1
        clear H1
        obtain rfl := Option.some.inj H
        go_wp2
        repeat (go_quiet (fail); try go_wp2)
        go_ret
        exact ⟨by first | rfl | (simp [errW_none, errW_some] <;> rfl) | (simp [*, errW_none, errW_some] <;> rfl), by repeat (first | (with_reducible first | exact HB.out | apply below_alloc | apply pw_below_drewN | apply below_drew1 | refine below_set ?_ GE284.out) | exact HB.out)⟩
      · replace c14 := Bool.eq_false_iff.mpr c14
        subst c14
        have H1 : (cowrieref20_Check.l0 kj1 0 l0_0 l0_1 a0_2) = some r := by rw [if_neg (show ¬ (false = true) by decide)] at H; exact H
        clear H
        have H := H1
        clear H1
        have H' := Aside0.mk H
        clear H
        go_wp2
        repeat (go_quiet (fail); try go_wp2)
        go_loopg [3] kj1 (fun kq v3 w' => ∃ (x3_2 : Int), v3 = .int .i64 x3_2 ∧ Aside0 (cowrieref20_Check.l0 kq x3_2 l0_0 l0_1 a0_2 = some r) ∧ Aside0 (kq ≤ kj1) ∧ Aside0 (w'.heap[gb284]? = some (.cells #[(.slice A0_0 l0_0.length c0_0), (.slice A0_1 l0_1.length c0_1), .int .i64 a0_2] 25 (0, 0))) ∧ Aside0 (Below w.heap.size w w'))
        case atStart => exact ⟨(0), (by first | rfl | (simp; done) | (simp [*]; done)), H', ⟨Nat.le_refl _⟩, ⟨by (with_reducible repeat (first | refine blk_drewN ?_ _ | refine blk_drew ?_ | refine blk_alloc ?_ _)); exact BK284.out⟩, ⟨by repeat (first | (with_reducible first | exact HB.out | apply below_alloc | apply pw_below_drewN | apply below_drew1 | refine below_set ?_ GE284.out) | exact HB.out)⟩⟩
        case round =>
          clear H'
          try clear c1
          try clear p2
          try clear c4
          try clear c4b0
          try clear c4b1
          try clear c6
          try clear c6b0
          try clear c6b1
          try clear c9
          try clear c9b0
          try clear c9b1
          try clear c10
          try clear c10b0
          try clear c13
          try clear c14
          try clear hcz11_0
          try clear hcz11_1
          try clear hcz11_2
          try clear hcz12_0
          try clear hcz12_1
          try clear hcz12_2
          try clear hcz13_0
          try clear hcz13_1
          try clear hcz13_2
          try clear hcz5_0
          try clear hcz5_1
          try clear hcz5_2
          try clear hcz7_0
          try clear hcz7_1
          try clear hcz7_2
          try clear hfz11_0
          try clear hfz11_1
          try clear hfz11_2
          try clear hfz12_0
          try clear hfz12_1
          try clear hfz12_2
          try clear hfz13_0
          try clear hfz13_1
          try clear hfz13_2
          try clear hfz5_0
          try clear hfz5_1
          try clear hfz5_2
          try clear hfz7_0
          try clear hfz7_1
          try clear hfz7_2
          try clear p2
          obtain ⟨x3_2, rfl, HA, HK2, BK284, HB⟩ := hrel
          cases gk with
          | zero => exact absurd HA.out (by simp [cowrieref20_Check.l0])
          | succ k2 =>
            have H := HA.out
            clear HA
            simp only [cowrieref20_Check.l0] at H
            by_cases c15 : x3_2 < (l0_0.length : Int)
            · rw [if_pos c15] at H
              have c15b0 : decide (x3_2 < (l0_0.length : Int)) = true := decide_eq_true c15
              clear c15
              by_cases c16 : 0 ≤ x3_2
              · rw [if_pos c16] at H
                have c16b0 : decide (0 ≤ x3_2) = true := decide_eq_true c16
                clear c16
                have HC17 := Aside0.mk H
                clear H
                have hcz18_0 : wr.cell? ⟨gb284, 0, none⟩ = some (.slice A0_0 l0_0.length c0_0) := (blk_cell BK284.out 0).trans rfl
                have hcz18_1 : wr.cell? ⟨gb284, 1, none⟩ = some (.slice A0_1 l0_1.length c0_1) := (blk_cell BK284.out 1).trans rfl
                have hcz18_2 : wr.cell? ⟨gb284, 2, none⟩ = some (.int .i64 a0_2) := (blk_cell BK284.out 2).trans rfl
                have hfz18_0 := blk_frozen BK284.out 0
                have hfz18_1 := blk_frozen BK284.out 1
                have hfz18_2 := blk_frozen BK284.out 2
                have p286 : 0 ≤ (x3_2 : Int) := of_decide_eq_true (by first | (with_reducible assumption) | assumption)
                have q286 : x3_2 < (l0_0.length : Int) := of_decide_eq_true (by first | (with_reducible assumption) | assumption)
                obtain ⟨ad286, A286_3, c286_3, e286, hx286_0, hx286_1, hx286_2, hx286_3, hl286_3, hi286_3⟩ := at_T53 HR0_0.out x3_2 p286 q286
                cases e286
                replace hx286_0 := (HB.out.cell (World.block_lt_of_cell? w _ hx286_0)).trans hx286_0
                replace hx286_1 := (HB.out.cell (World.block_lt_of_cell? w _ hx286_1)).trans hx286_1
                replace hx286_2 := (HB.out.cell (World.block_lt_of_cell? w _ hx286_2)).trans hx286_2
                replace hx286_3 := (HB.out.cell (World.block_lt_of_cell? w _ hx286_3)).trans hx286_3
                have HR286_3 := Aside0.mk hi286_3
                have HC286_3 := Aside0.mk hl286_3
                clear hi286_3 hl286_3
                replace p286 := eq_true p286
                replace q286 := eq_true q286
                go_upto_region 7 with (first | ((with_reducible refine gate_dst (N := 4) rfl ?_); (try (refine gate_guard (by rfl) ?_; dsimp only)); refine box_event ?hg (N := 4) ?hd (cs := #[.string (⟨#[]⟩ : ByteArray), .string (⟨#[]⟩ : ByteArray), .bool false, .slice none 0 0]) (t := 53) ?hr ?_; (case hd => rfl); (case hg => rfl); (case hr => first | (go_simp; done) | (go_simp; rfl)); intro gb287 hg w19 hbox hb; have n0_ := Aside0.mk (blk_below (g := gb284) (o := .cells #[.slice (some ad286) l0_0.length c0_0, .slice A0_1 l0_1.length c0_1, .int .i64 a0_2] 25 (0, 0)) (by (with_reducible repeat (first | refine blk_drewN ?_ _ | refine blk_drew ?_ | refine blk_alloc ?_ _)); exact BK284.out) hb); have n1_ := Aside0.mk (below_step (by repeat (first | (with_reducible first | exact HB.out | apply below_alloc | apply pw_below_drewN | apply below_drew1 | refine below_set ?_ GE284.out) | exact HB.out)) hb); have n2_ := Aside0.mk (hbox); have n3_ := Aside0.mk ((by rw [hg]; exact (below_size (by repeat (first | (with_reducible first | exact HB.out | apply below_alloc | apply pw_below_drewN | apply below_drew1 | refine below_set ?_ GE284.out) | exact HB.out))) : w.heap.size ≤ gb287)); have n4_ := Aside0.mk ((by rw [hg]; exact (below_size (by repeat (first | (with_reducible first | exact HB.out | apply below_alloc | apply pw_below_drewN | apply below_drew1 | refine below_set ?_ GE284.out) | exact HB.out))) : w.heap.size ≤ gb287)); have n5_ := Aside0.mk ((by rw [hg]; exact Nat.ne_of_lt (blk_lt (g := gb284) (o := .cells #[.slice (some ad286) l0_0.length c0_0, .slice A0_1 l0_1.length c0_1, .int .i64 a0_2] 25 (0, 0)) (by (with_reducible repeat (first | refine blk_drewN ?_ _ | refine blk_drew ?_ | refine blk_alloc ?_ _)); exact BK284.out)) : gb284 ≠ gb287)); have n6_ := Aside0.mk ((by rw [hg]; exact Nat.ne_of_gt (blk_lt (g := gb284) (o := .cells #[.slice (some ad286) l0_0.length c0_0, .slice A0_1 l0_1.length c0_1, .int .i64 a0_2] 25 (0, 0)) (by (with_reducible repeat (first | refine blk_drewN ?_ _ | refine blk_drew ?_ | refine blk_alloc ?_ _)); exact BK284.out)) : gb287 ≠ gb284)); clear BK284; clear HB; have BK284 := n0_; have HB := n1_; have BK287 := n2_; have GW287 := n3_; have GE287 := n4_; have NB284_287 := n5_; have NB287_284 := n6_; clear n0_ n1_ n2_ n3_ n4_ n5_ n6_; clear hb hbox hg; have hnb20 := NB287_284.out; have hnc20 := NB284_287.out; have hcz21_0 : w19.cell? ⟨gb287, 0, none⟩ = some (.string (⟨#[]⟩ : ByteArray)) := (blk_cell BK287.out 0).trans rfl; have hcz21_1 : w19.cell? ⟨gb287, 1, none⟩ = some (.string (⟨#[]⟩ : ByteArray)) := (blk_cell BK287.out 1).trans rfl; have hcz21_2 : w19.cell? ⟨gb287, 2, none⟩ = some (.bool false) := (blk_cell BK287.out 2).trans rfl; have hcz21_3 : w19.cell? ⟨gb287, 3, none⟩ = some (.slice none 0 0) := (blk_cell BK287.out 3).trans rfl; have hfz21_0 := blk_frozen BK287.out 0; have hfz21_1 := blk_frozen BK287.out 1; have hfz21_2 := blk_frozen BK287.out 2; have hfz21_3 := blk_frozen BK287.out 3))
                repeat (go_quiet (first | ((with_reducible refine gate_dst (N := 4) rfl ?_); (try (refine gate_guard (by rfl) ?_; dsimp only)); refine box_event ?hg (N := 4) ?hd (cs := #[.string (⟨#[]⟩ : ByteArray), .string (⟨#[]⟩ : ByteArray), .bool false, .slice none 0 0]) (t := 53) ?hr ?_; (case hd => rfl); (case hg => rfl); (case hr => first | (go_simp; done) | (go_simp; rfl)); intro gb287 hg w19 hbox hb; have n0_ := Aside0.mk (blk_below (g := gb284) (o := .cells #[.slice (some ad286) l0_0.length c0_0, .slice A0_1 l0_1.length c0_1, .int .i64 a0_2] 25 (0, 0)) (by (with_reducible repeat (first | refine blk_drewN ?_ _ | refine blk_drew ?_ | refine blk_alloc ?_ _)); exact BK284.out) hb); have n1_ := Aside0.mk (below_step (by repeat (first | (with_reducible first | exact HB.out | apply below_alloc | apply pw_below_drewN | apply below_drew1 | refine below_set ?_ GE284.out) | exact HB.out)) hb); have n2_ := Aside0.mk (hbox); have n3_ := Aside0.mk ((by rw [hg]; exact (below_size (by repeat (first | (with_reducible first | exact HB.out | apply below_alloc | apply pw_below_drewN | apply below_drew1 | refine below_set ?_ GE284.out) | exact HB.out))) : w.heap.size ≤ gb287)); have n4_ := Aside0.mk ((by rw [hg]; exact (below_size (by repeat (first | (with_reducible first | exact HB.out | apply below_alloc | apply pw_below_drewN | apply below_drew1 | refine below_set ?_ GE284.out) | exact HB.out))) : w.heap.size ≤ gb287)); have n5_ := Aside0.mk ((by rw [hg]; exact Nat.ne_of_lt (blk_lt (g := gb284) (o := .cells #[.slice (some ad286) l0_0.length c0_0, .slice A0_1 l0_1.length c0_1, .int .i64 a0_2] 25 (0, 0)) (by (with_reducible repeat (first | refine blk_drewN ?_ _ | refine blk_drew ?_ | refine blk_alloc ?_ _)); exact BK284.out)) : gb284 ≠ gb287)); have n6_ := Aside0.mk ((by rw [hg]; exact Nat.ne_of_gt (blk_lt (g := gb284) (o := .cells #[.slice (some ad286) l0_0.length c0_0, .slice A0_1 l0_1.length c0_1, .int .i64 a0_2] 25 (0, 0)) (by (with_reducible repeat (first | refine blk_drewN ?_ _ | refine blk_drew ?_ | refine blk_alloc ?_ _)); exact BK284.out)) : gb287 ≠ gb284)); clear BK284; clear HB; have BK284 := n0_; have HB := n1_; have BK287 := n2_; have GW287 := n3_; have GE287 := n4_; have NB284_287 := n5_; have NB287_284 := n6_; clear n0_ n1_ n2_ n3_ n4_ n5_ n6_; clear hb hbox hg; have hnb20 := NB287_284.out; have hnc20 := NB284_287.out; have hcz21_0 : w19.cell? ⟨gb287, 0, none⟩ = some (.string (⟨#[]⟩ : ByteArray)) := (blk_cell BK287.out 0).trans rfl; have hcz21_1 : w19.cell? ⟨gb287, 1, none⟩ = some (.string (⟨#[]⟩ : ByteArray)) := (blk_cell BK287.out 1).trans rfl; have hcz21_2 : w19.cell? ⟨gb287, 2, none⟩ = some (.bool false) := (blk_cell BK287.out 2).trans rfl; have hcz21_3 : w19.cell? ⟨gb287, 3, none⟩ = some (.slice none 0 0) := (blk_cell BK287.out 3).trans rfl; have hfz21_0 := blk_frozen BK287.out 0; have hfz21_1 := blk_frozen BK287.out 1; have hfz21_2 := blk_frozen BK287.out 2; have hfz21_3 := blk_frozen BK287.out 3)); go_upto_region 7 with (first | ((with_reducible refine gate_dst (N := 4) rfl ?_); (try (refine gate_guard (by rfl) ?_; dsimp only)); refine box_event ?hg (N := 4) ?hd (cs := #[.string (⟨#[]⟩ : ByteArray), .string (⟨#[]⟩ : ByteArray), .bool false, .slice none 0 0]) (t := 53) ?hr ?_; (case hd => rfl); (case hg => rfl); (case hr => first | (go_simp; done) | (go_simp; rfl)); intro gb287 hg w19 hbox hb; have n0_ := Aside0.mk (blk_below (g := gb284) (o := .cells #[.slice (some ad286) l0_0.length c0_0, .slice A0_1 l0_1.length c0_1, .int .i64 a0_2] 25 (0, 0)) (by (with_reducible repeat (first | refine blk_drewN ?_ _ | refine blk_drew ?_ | refine blk_alloc ?_ _)); exact BK284.out) hb); have n1_ := Aside0.mk (below_step (by repeat (first | (with_reducible first | exact HB.out | apply below_alloc | apply pw_below_drewN | apply below_drew1 | refine below_set ?_ GE284.out) | exact HB.out)) hb); have n2_ := Aside0.mk (hbox); have n3_ := Aside0.mk ((by rw [hg]; exact (below_size (by repeat (first | (with_reducible first | exact HB.out | apply below_alloc | apply pw_below_drewN | apply below_drew1 | refine below_set ?_ GE284.out) | exact HB.out))) : w.heap.size ≤ gb287)); have n4_ := Aside0.mk ((by rw [hg]; exact (below_size (by repeat (first | (with_reducible first | exact HB.out | apply below_alloc | apply pw_below_drewN | apply below_drew1 | refine below_set ?_ GE284.out) | exact HB.out))) : w.heap.size ≤ gb287)); have n5_ := Aside0.mk ((by rw [hg]; exact Nat.ne_of_lt (blk_lt (g := gb284) (o := .cells #[.slice (some ad286) l0_0.length c0_0, .slice A0_1 l0_1.length c0_1, .int .i64 a0_2] 25 (0, 0)) (by (with_reducible repeat (first | refine blk_drewN ?_ _ | refine blk_drew ?_ | refine blk_alloc ?_ _)); exact BK284.out)) : gb284 ≠ gb287)); have n6_ := Aside0.mk ((by rw [hg]; exact Nat.ne_of_gt (blk_lt (g := gb284) (o := .cells #[.slice (some ad286) l0_0.length c0_0, .slice A0_1 l0_1.length c0_1, .int .i64 a0_2] 25 (0, 0)) (by (with_reducible repeat (first | refine blk_drewN ?_ _ | refine blk_drew ?_ | refine blk_alloc ?_ _)); exact BK284.out)) : gb287 ≠ gb284)); clear BK284; clear HB; have BK284 := n0_; have HB := n1_; have BK287 := n2_; have GW287 := n3_; have GE287 := n4_; have NB284_287 := n5_; have NB287_284 := n6_; clear n0_ n1_ n2_ n3_ n4_ n5_ n6_; clear hb hbox hg; have hnb20 := NB287_284.out; have hnc20 := NB284_287.out; have hcz21_0 : w19.cell? ⟨gb287, 0, none⟩ = some (.string (⟨#[]⟩ : ByteArray)) := (blk_cell BK287.out 0).trans rfl; have hcz21_1 : w19.cell? ⟨gb287, 1, none⟩ = some (.string (⟨#[]⟩ : ByteArray)) := (blk_cell BK287.out 1).trans rfl; have hcz21_2 : w19.cell? ⟨gb287, 2, none⟩ = some (.bool false) := (blk_cell BK287.out 2).trans rfl; have hcz21_3 : w19.cell? ⟨gb287, 3, none⟩ = some (.slice none 0 0) := (blk_cell BK287.out 3).trans rfl; have hfz21_0 := blk_frozen BK287.out 0; have hfz21_1 := blk_frozen BK287.out 1; have hfz21_2 := blk_frozen BK287.out 2; have hfz21_3 := blk_frozen BK287.out 3)))
                (try simp only [Act.put, List.setIfInBounds_toArray, List.set_cons_zero, List.set_cons_succ])
                go_cut [85] (fun v85 wc => ∃ (kq : Nat) (x85_16 : Bool), v85 = .bool x85_16 ∧ Aside0 (cowrieref20_Check.j2 kq x3_2 x85_16 l0_0 l0_1 a0_2 ((rd_T53 l0_0 x3_2).f0) ((rd_T53 l0_0 x3_2).f1) ((rd_T53 l0_0 x3_2).f2) ((rd_T53 l0_0 x3_2).f3) = some r) ∧ Aside0 (kq ≤ k2) ∧ Aside0 (wc.heap[gb284]? = some (.cells #[(.slice (some ad286) l0_0.length c0_0), (.slice A0_1 l0_1.length c0_1), .int .i64 a0_2] 25 (0, 0))) ∧ Aside0 (wc.heap[gb287]? = some (.cells #[.string ((rd_T53 l0_0 x3_2).f0), .string ((rd_T53 l0_0 x3_2).f1), .bool ((rd_T53 l0_0 x3_2).f2), (.slice A286_3 ((rd_T53 l0_0 x3_2).f3).length c286_3)] 53 (0, 0))) ∧ Aside0 (Below w.heap.size w wc))
                case first =>
                  have H := HC17.out
                  clear HC17
                  replace H := Option.bind_eq_some_iff.mp H
                  obtain ⟨t288, A220, H⟩ := H
                  replace H : (if t288 = true then ((cowrieref20_text.f k2 ((rd_T53 l0_0 x3_2).f1)).bind fun t289 => (if t289 = 0 then ((cowrieref20_texts.f k2 ((rd_T53 l0_0 x3_2).f3)).bind fun t290 => (if t290 = 0 then (if (((rd_T53 l0_0 x3_2).f3).length : Int) > 1024 then (cowrieref20_Check.j2 k2 x3_2 true l0_0 l0_1 a0_2 ((rd_T53 l0_0 x3_2).f0) ((rd_T53 l0_0 x3_2).f1) ((rd_T53 l0_0 x3_2).f2) ((rd_T53 l0_0 x3_2).f3)) else (if (rd_T53 l0_0 x3_2).f2 = true then (if ((rd_T53 l0_0 x3_2).f1).toList = ([] : List UInt8) then (if ((rd_T53 l0_0 x3_2).f2 = true) then (cowrieref20_Check.j2 k2 x3_2 false l0_0 l0_1 a0_2 ((rd_T53 l0_0 x3_2).f0) ((rd_T53 l0_0 x3_2).f1) ((rd_T53 l0_0 x3_2).f2) ((rd_T53 l0_0 x3_2).f3)) else (cowrieref20_Check.j2 k2 x3_2 (decide ((((rd_T53 l0_0 x3_2).f3).length : Int) > 0)) l0_0 l0_1 a0_2 ((rd_T53 l0_0 x3_2).f0) ((rd_T53 l0_0 x3_2).f1) ((rd_T53 l0_0 x3_2).f2) ((rd_T53 l0_0 x3_2).f3))) else (cowrieref20_Check.j2 k2 x3_2 true l0_0 l0_1 a0_2 ((rd_T53 l0_0 x3_2).f0) ((rd_T53 l0_0 x3_2).f1) ((rd_T53 l0_0 x3_2).f2) ((rd_T53 l0_0 x3_2).f3))) else (if ((rd_T53 l0_0 x3_2).f2 = true) then (cowrieref20_Check.j2 k2 x3_2 false l0_0 l0_1 a0_2 ((rd_T53 l0_0 x3_2).f0) ((rd_T53 l0_0 x3_2).f1) ((rd_T53 l0_0 x3_2).f2) ((rd_T53 l0_0 x3_2).f3)) else (cowrieref20_Check.j2 k2 x3_2 (decide ((((rd_T53 l0_0 x3_2).f3).length : Int) > 0)) l0_0 l0_1 a0_2 ((rd_T53 l0_0 x3_2).f0) ((rd_T53 l0_0 x3_2).f1) ((rd_T53 l0_0 x3_2).f2) ((rd_T53 l0_0 x3_2).f3))))) else (cowrieref20_Check.j2 k2 x3_2 true l0_0 l0_1 a0_2 ((rd_T53 l0_0 x3_2).f0) ((rd_T53 l0_0 x3_2).f1) ((rd_T53 l0_0 x3_2).f2) ((rd_T53 l0_0 x3_2).f3)))) else (cowrieref20_Check.j2 k2 x3_2 true l0_0 l0_1 a0_2 ((rd_T53 l0_0 x3_2).f0) ((rd_T53 l0_0 x3_2).f1) ((rd_T53 l0_0 x3_2).f2) ((rd_T53 l0_0 x3_2).f3)))) else (cowrieref20_Check.j2 k2 x3_2 true l0_0 l0_1 a0_2 ((rd_T53 l0_0 x3_2).f0) ((rd_T53 l0_0 x3_2).f1) ((rd_T53 l0_0 x3_2).f2) ((rd_T53 l0_0 x3_2).f3))) = some r := H
                  have A22 := Aside0.mk A220
                  clear A220
                  by_cases c23 : t288 = true
                  · subst c23
                    have H1 : ((cowrieref20_text.f k2 ((rd_T53 l0_0 x3_2).f1)).bind fun t289 => (if t289 = 0 then ((cowrieref20_texts.f k2 ((rd_T53 l0_0 x3_2).f3)).bind fun t290 => (if t290 = 0 then (if (((rd_T53 l0_0 x3_2).f3).length : Int) > 1024 then (cowrieref20_Check.j2 k2 x3_2 true l0_0 l0_1 a0_2 ((rd_T53 l0_0 x3_2).f0) ((rd_T53 l0_0 x3_2).f1) ((rd_T53 l0_0 x3_2).f2) ((rd_T53 l0_0 x3_2).f3)) else (if (rd_T53 l0_0 x3_2).f2 = true then (if ((rd_T53 l0_0 x3_2).f1).toList = ([] : List UInt8) then (if ((rd_T53 l0_0 x3_2).f2 = true) then (cowrieref20_Check.j2 k2 x3_2 false l0_0 l0_1 a0_2 ((rd_T53 l0_0 x3_2).f0) ((rd_T53 l0_0 x3_2).f1) ((rd_T53 l0_0 x3_2).f2) ((rd_T53 l0_0 x3_2).f3)) else (cowrieref20_Check.j2 k2 x3_2 (decide ((((rd_T53 l0_0 x3_2).f3).length : Int) > 0)) l0_0 l0_1 a0_2 ((rd_T53 l0_0 x3_2).f0) ((rd_T53 l0_0 x3_2).f1) ((rd_T53 l0_0 x3_2).f2) ((rd_T53 l0_0 x3_2).f3))) else (cowrieref20_Check.j2 k2 x3_2 true l0_0 l0_1 a0_2 ((rd_T53 l0_0 x3_2).f0) ((rd_T53 l0_0 x3_2).f1) ((rd_T53 l0_0 x3_2).f2) ((rd_T53 l0_0 x3_2).f3))) else (if ((rd_T53 l0_0 x3_2).f2 = true) then (cowrieref20_Check.j2 k2 x3_2 false l0_0 l0_1 a0_2 ((rd_T53 l0_0 x3_2).f0) ((rd_T53 l0_0 x3_2).f1) ((rd_T53 l0_0 x3_2).f2) ((rd_T53 l0_0 x3_2).f3)) else (cowrieref20_Check.j2 k2 x3_2 (decide ((((rd_T53 l0_0 x3_2).f3).length : Int) > 0)) l0_0 l0_1 a0_2 ((rd_T53 l0_0 x3_2).f0) ((rd_T53 l0_0 x3_2).f1) ((rd_T53 l0_0 x3_2).f2) ((rd_T53 l0_0 x3_2).f3))))) else (cowrieref20_Check.j2 k2 x3_2 true l0_0 l0_1 a0_2 ((rd_T53 l0_0 x3_2).f0) ((rd_T53 l0_0 x3_2).f1) ((rd_T53 l0_0 x3_2).f2) ((rd_T53 l0_0 x3_2).f3)))) else (cowrieref20_Check.j2 k2 x3_2 true l0_0 l0_1 a0_2 ((rd_T53 l0_0 x3_2).f0) ((rd_T53 l0_0 x3_2).f1) ((rd_T53 l0_0 x3_2).f2) ((rd_T53 l0_0 x3_2).f3)))) = some r := by rw [if_pos rfl] at H; exact H
                    clear H
                    have H := H1
                    clear H1
                    replace H := Option.bind_eq_some_iff.mp H
                    obtain ⟨t289, A240, H⟩ := H
                    replace H : (if t289 = 0 then ((cowrieref20_texts.f k2 ((rd_T53 l0_0 x3_2).f3)).bind fun t290 => (if t290 = 0 then (if (((rd_T53 l0_0 x3_2).f3).length : Int) > 1024 then (cowrieref20_Check.j2 k2 x3_2 true l0_0 l0_1 a0_2 ((rd_T53 l0_0 x3_2).f0) ((rd_T53 l0_0 x3_2).f1) ((rd_T53 l0_0 x3_2).f2) ((rd_T53 l0_0 x3_2).f3)) else (if (rd_T53 l0_0 x3_2).f2 = true then (if ((rd_T53 l0_0 x3_2).f1).toList = ([] : List UInt8) then (if ((rd_T53 l0_0 x3_2).f2 = true) then (cowrieref20_Check.j2 k2 x3_2 false l0_0 l0_1 a0_2 ((rd_T53 l0_0 x3_2).f0) ((rd_T53 l0_0 x3_2).f1) ((rd_T53 l0_0 x3_2).f2) ((rd_T53 l0_0 x3_2).f3)) else (cowrieref20_Check.j2 k2 x3_2 (decide ((((rd_T53 l0_0 x3_2).f3).length : Int) > 0)) l0_0 l0_1 a0_2 ((rd_T53 l0_0 x3_2).f0) ((rd_T53 l0_0 x3_2).f1) ((rd_T53 l0_0 x3_2).f2) ((rd_T53 l0_0 x3_2).f3))) else (cowrieref20_Check.j2 k2 x3_2 true l0_0 l0_1 a0_2 ((rd_T53 l0_0 x3_2).f0) ((rd_T53 l0_0 x3_2).f1) ((rd_T53 l0_0 x3_2).f2) ((rd_T53 l0_0 x3_2).f3))) else (if ((rd_T53 l0_0 x3_2).f2 = true) then (cowrieref20_Check.j2 k2 x3_2 false l0_0 l0_1 a0_2 ((rd_T53 l0_0 x3_2).f0) ((rd_T53 l0_0 x3_2).f1) ((rd_T53 l0_0 x3_2).f2) ((rd_T53 l0_0 x3_2).f3)) else (cowrieref20_Check.j2 k2 x3_2 (decide ((((rd_T53 l0_0 x3_2).f3).length : Int) > 0)) l0_0 l0_1 a0_2 ((rd_T53 l0_0 x3_2).f0) ((rd_T53 l0_0 x3_2).f1) ((rd_T53 l0_0 x3_2).f2) ((rd_T53 l0_0 x3_2).f3))))) else (cowrieref20_Check.j2 k2 x3_2 true l0_0 l0_1 a0_2 ((rd_T53 l0_0 x3_2).f0) ((rd_T53 l0_0 x3_2).f1) ((rd_T53 l0_0 x3_2).f2) ((rd_T53 l0_0 x3_2).f3)))) else (cowrieref20_Check.j2 k2 x3_2 true l0_0 l0_1 a0_2 ((rd_T53 l0_0 x3_2).f0) ((rd_T53 l0_0 x3_2).f1) ((rd_T53 l0_0 x3_2).f2) ((rd_T53 l0_0 x3_2).f3))) = some r := H
                    have A24 := Aside0.mk A240
                    clear A240
                    by_cases c25 : t289 = 0
                    · rw [if_pos c25] at H
                      have c25b0 : (t289 == 0) = true := beq_iff_eq.mpr c25
                      have c25b1 : (t289 != 0) = false := bne_eq_false_iff_eq.mpr c25
                      clear c25
                      (first | rw [c25b0] | (simp only [i64_w, i32_w]; rw [c25b0]) | skip)
                      replace H := Option.bind_eq_some_iff.mp H
                      obtain ⟨t290, A260, H⟩ := H
                      replace H : (if t290 = 0 then (if (((rd_T53 l0_0 x3_2).f3).length : Int) > 1024 then (cowrieref20_Check.j2 k2 x3_2 true l0_0 l0_1 a0_2 ((rd_T53 l0_0 x3_2).f0) ((rd_T53 l0_0 x3_2).f1) ((rd_T53 l0_0 x3_2).f2) ((rd_T53 l0_0 x3_2).f3)) else (if (rd_T53 l0_0 x3_2).f2 = true then (if ((rd_T53 l0_0 x3_2).f1).toList = ([] : List UInt8) then (if ((rd_T53 l0_0 x3_2).f2 = true) then (cowrieref20_Check.j2 k2 x3_2 false l0_0 l0_1 a0_2 ((rd_T53 l0_0 x3_2).f0) ((rd_T53 l0_0 x3_2).f1) ((rd_T53 l0_0 x3_2).f2) ((rd_T53 l0_0 x3_2).f3)) else (cowrieref20_Check.j2 k2 x3_2 (decide ((((rd_T53 l0_0 x3_2).f3).length : Int) > 0)) l0_0 l0_1 a0_2 ((rd_T53 l0_0 x3_2).f0) ((rd_T53 l0_0 x3_2).f1) ((rd_T53 l0_0 x3_2).f2) ((rd_T53 l0_0 x3_2).f3))) else (cowrieref20_Check.j2 k2 x3_2 true l0_0 l0_1 a0_2 ((rd_T53 l0_0 x3_2).f0) ((rd_T53 l0_0 x3_2).f1) ((rd_T53 l0_0 x3_2).f2) ((rd_T53 l0_0 x3_2).f3))) else (if ((rd_T53 l0_0 x3_2).f2 = true) then (cowrieref20_Check.j2 k2 x3_2 false l0_0 l0_1 a0_2 ((rd_T53 l0_0 x3_2).f0) ((rd_T53 l0_0 x3_2).f1) ((rd_T53 l0_0 x3_2).f2) ((rd_T53 l0_0 x3_2).f3)) else (cowrieref20_Check.j2 k2 x3_2 (decide ((((rd_T53 l0_0 x3_2).f3).length : Int) > 0)) l0_0 l0_1 a0_2 ((rd_T53 l0_0 x3_2).f0) ((rd_T53 l0_0 x3_2).f1) ((rd_T53 l0_0 x3_2).f2) ((rd_T53 l0_0 x3_2).f3))))) else (cowrieref20_Check.j2 k2 x3_2 true l0_0 l0_1 a0_2 ((rd_T53 l0_0 x3_2).f0) ((rd_T53 l0_0 x3_2).f1) ((rd_T53 l0_0 x3_2).f2) ((rd_T53 l0_0 x3_2).f3))) = some r := H
                      have A26 := Aside0.mk A260
                      clear A260
                      by_cases c27 : t290 = 0
                      · rw [if_pos c27] at H
                        have c27b0 : (t290 == 0) = true := beq_iff_eq.mpr c27
                        have c27b1 : (t290 != 0) = false := bne_eq_false_iff_eq.mpr c27
                        clear c27
                        by_cases c28 : (((rd_T53 l0_0 x3_2).f3).length : Int) > 1024
                        · rw [if_pos c28] at H
                          have c28b0 : decide (1024 < (((rd_T53 l0_0 x3_2).f3).length : Int)) = true := decide_eq_true c28
                          have c28b1 : decide (1024 < ((rd_T53 l0_0 x3_2).f3).length) = true := decide_eq_true (by omega)
                          clear c28
                          have H' := Aside0.mk H
                          clear H
                          have hnb29 := NB287_284.out
                          have hnc29 := NB284_287.out
                          have hcz30_0 : w19.cell? ⟨gb287, 0, none⟩ = some (.string (⟨#[]⟩ : ByteArray)) := (blk_cell BK287.out 0).trans rfl
                          have hcz30_1 : w19.cell? ⟨gb287, 1, none⟩ = some (.string (⟨#[]⟩ : ByteArray)) := (blk_cell BK287.out 1).trans rfl
                          have hcz30_2 : w19.cell? ⟨gb287, 2, none⟩ = some (.bool false) := (blk_cell BK287.out 2).trans rfl
                          have hcz30_3 : w19.cell? ⟨gb287, 3, none⟩ = some (.slice none 0 0) := (blk_cell BK287.out 3).trans rfl
                          have hfz30_0 := blk_frozen BK287.out 0
                          have hfz30_1 := blk_frozen BK287.out 1
                          have hfz30_2 := blk_frozen BK287.out 2
                          have hfz30_3 := blk_frozen BK287.out 3
                          go_wp2_with (first | (go_at_call 27; (with_reducible refine (cowrieref01_Name.calls k2 ((rd_T53 l0_0 x3_2).f0) true _ A22.out).mono ?_); rintro e w' ⟨rfl, ⟨nd, rfl⟩⟩; (try first | exact ⟨rfl, _, World.drewN_drewN _ _ _⟩ | exact ⟨rfl, _, Eq.trans (World.drewN_drewN _ _ _) (congrArg (World.drewN _) (Nat.add_assoc _ _ _))⟩)) | (go_at_call 28; (with_reducible refine (cowrieref20_text.calls k2 ((rd_T53 l0_0 x3_2).f1) t289 _ A24.out).mono ?_); rintro e w' ⟨rfl, ⟨nd, rfl⟩⟩; (try first | exact ⟨rfl, _, World.drewN_drewN _ _ _⟩ | exact ⟨rfl, _, Eq.trans (World.drewN_drewN _ _ _) (congrArg (World.drewN _) (Nat.add_assoc _ _ _))⟩)) | (go_at_call 26; (with_reducible refine (cowrieref20_texts.calls k2 _ _ ((rd_T53 l0_0 x3_2).f3) t290 _ ?side1 ?side2 A26.out).mono ?_); (case side1 => exact Kd.C_below HR286_3.out (by repeat (first | (with_reducible first | exact HB.out | apply below_alloc | apply pw_below_drewN | apply below_drew1 | refine below_set ?_ GE284.out | refine below_set ?_ GE287.out) | exact HB.out))); (case side2 => exact HC286_3.out); rintro e w' ⟨rfl, ⟨nd, rfl⟩⟩; (try first | exact ⟨rfl, _, World.drewN_drewN _ _ _⟩ | exact ⟨rfl, _, Eq.trans (World.drewN_drewN _ _ _) (congrArg (World.drewN _) (Nat.add_assoc _ _ _))⟩)))
                          repeat (go_quiet (first | (go_at_call 27; (with_reducible refine (cowrieref01_Name.calls k2 ((rd_T53 l0_0 x3_2).f0) true _ A22.out).mono ?_); rintro e w' ⟨rfl, ⟨nd, rfl⟩⟩; (try first | exact ⟨rfl, _, World.drewN_drewN _ _ _⟩ | exact ⟨rfl, _, Eq.trans (World.drewN_drewN _ _ _) (congrArg (World.drewN _) (Nat.add_assoc _ _ _))⟩)) | (go_at_call 28; (with_reducible refine (cowrieref20_text.calls k2 ((rd_T53 l0_0 x3_2).f1) t289 _ A24.out).mono ?_); rintro e w' ⟨rfl, ⟨nd, rfl⟩⟩; (try first | exact ⟨rfl, _, World.drewN_drewN _ _ _⟩ | exact ⟨rfl, _, Eq.trans (World.drewN_drewN _ _ _) (congrArg (World.drewN _) (Nat.add_assoc _ _ _))⟩)) | (go_at_call 26; (with_reducible refine (cowrieref20_texts.calls k2 _ _ ((rd_T53 l0_0 x3_2).f3) t290 _ ?side1 ?side2 A26.out).mono ?_); (case side1 => exact Kd.C_below HR286_3.out (by repeat (first | (with_reducible first | exact HB.out | apply below_alloc | apply pw_below_drewN | apply below_drew1 | refine below_set ?_ GE284.out | refine below_set ?_ GE287.out) | exact HB.out))); (case side2 => exact HC286_3.out); rintro e w' ⟨rfl, ⟨nd, rfl⟩⟩; (try first | exact ⟨rfl, _, World.drewN_drewN _ _ _⟩ | exact ⟨rfl, _, Eq.trans (World.drewN_drewN _ _ _) (congrArg (World.drewN _) (Nat.add_assoc _ _ _))⟩))); try go_wp2_with (first | (go_at_call 27; (with_reducible refine (cowrieref01_Name.calls k2 ((rd_T53 l0_0 x3_2).f0) true _ A22.out).mono ?_); rintro e w' ⟨rfl, ⟨nd, rfl⟩⟩; (try first | exact ⟨rfl, _, World.drewN_drewN _ _ _⟩ | exact ⟨rfl, _, Eq.trans (World.drewN_drewN _ _ _) (congrArg (World.drewN _) (Nat.add_assoc _ _ _))⟩)) | (go_at_call 28; (with_reducible refine (cowrieref20_text.calls k2 ((rd_T53 l0_0 x3_2).f1) t289 _ A24.out).mono ?_); rintro e w' ⟨rfl, ⟨nd, rfl⟩⟩; (try first | exact ⟨rfl, _, World.drewN_drewN _ _ _⟩ | exact ⟨rfl, _, Eq.trans (World.drewN_drewN _ _ _) (congrArg (World.drewN _) (Nat.add_assoc _ _ _))⟩)) | (go_at_call 26; (with_reducible refine (cowrieref20_texts.calls k2 _ _ ((rd_T53 l0_0 x3_2).f3) t290 _ ?side1 ?side2 A26.out).mono ?_); (case side1 => exact Kd.C_below HR286_3.out (by repeat (first | (with_reducible first | exact HB.out | apply below_alloc | apply pw_below_drewN | apply below_drew1 | refine below_set ?_ GE284.out | refine below_set ?_ GE287.out) | exact HB.out))); (case side2 => exact HC286_3.out); rintro e w' ⟨rfl, ⟨nd, rfl⟩⟩; (try first | exact ⟨rfl, _, World.drewN_drewN _ _ _⟩ | exact ⟨rfl, _, Eq.trans (World.drewN_drewN _ _ _) (congrArg (World.drewN _) (Nat.add_assoc _ _ _))⟩))))
                          go_meet
                          case rel => exact ⟨_, (true), (by first | rfl | (simp; done) | (simp [*]; done)), H', ⟨by have := HJ1.out; have := HK2.out; first | omega | exact Nat.le_refl _⟩, ⟨by (with_reducible repeat (first | refine blk_drewN ?_ _ | refine blk_drew ?_ | refine blk_alloc ?_ _)); refine blk_far ?_ NB284_287.out _; (with_reducible repeat (first | refine blk_drewN ?_ _ | refine blk_drew ?_ | refine blk_alloc ?_ _)); refine blk_far ?_ NB284_287.out _; (with_reducible repeat (first | refine blk_drewN ?_ _ | refine blk_drew ?_ | refine blk_alloc ?_ _)); refine blk_far ?_ NB284_287.out _; (with_reducible repeat (first | refine blk_drewN ?_ _ | refine blk_drew ?_ | refine blk_alloc ?_ _)); refine blk_far ?_ NB284_287.out _; (with_reducible repeat (first | refine blk_drewN ?_ _ | refine blk_drew ?_ | refine blk_alloc ?_ _)); exact BK284.out⟩, ⟨by (with_reducible repeat (first | refine blk_drewN ?_ _ | refine blk_drew ?_ | refine blk_alloc ?_ _)); refine blk_put (cs := #[.string ((rd_T53 l0_0 x3_2).f0), .string ((rd_T53 l0_0 x3_2).f1), .bool ((rd_T53 l0_0 x3_2).f2), .slice none 0 0]) ?_ 3 _ rfl; (with_reducible repeat (first | refine blk_drewN ?_ _ | refine blk_drew ?_ | refine blk_alloc ?_ _)); refine blk_put (cs := #[.string ((rd_T53 l0_0 x3_2).f0), .string ((rd_T53 l0_0 x3_2).f1), .bool false, .slice none 0 0]) ?_ 2 _ rfl; (with_reducible repeat (first | refine blk_drewN ?_ _ | refine blk_drew ?_ | refine blk_alloc ?_ _)); refine blk_put (cs := #[.string ((rd_T53 l0_0 x3_2).f0), .string (⟨#[]⟩ : ByteArray), .bool false, .slice none 0 0]) ?_ 1 _ rfl; (with_reducible repeat (first | refine blk_drewN ?_ _ | refine blk_drew ?_ | refine blk_alloc ?_ _)); refine blk_put (cs := #[.string (⟨#[]⟩ : ByteArray), .string (⟨#[]⟩ : ByteArray), .bool false, .slice none 0 0]) ?_ 0 _ rfl; (with_reducible repeat (first | refine blk_drewN ?_ _ | refine blk_drew ?_ | refine blk_alloc ?_ _)); exact BK287.out⟩, ⟨by repeat (first | (with_reducible first | exact HB.out | apply below_alloc | apply pw_below_drewN | apply below_drew1 | refine below_set ?_ GE284.out | refine below_set ?_ GE287.out) | exact HB.out)⟩⟩
                        · rw [if_neg c28] at H
                          have c28b0 : decide (1024 < (((rd_T53 l0_0 x3_2).f3).length : Int)) = false := decide_eq_false c28
                          have c28b1 : decide (1024 < ((rd_T53 l0_0 x3_2).f3).length) = false := decide_eq_false (by omega)
                          clear c28
                          obtain ⟨bq31, hbq31⟩ : ∃ b_ : Bool, b_ = ((rd_T53 l0_0 x3_2).f2) := ⟨_, rfl⟩
                          replace H : (if bq31 = true then (if ((rd_T53 l0_0 x3_2).f1).toList = ([] : List UInt8) then (if (bq31 = true) then (cowrieref20_Check.j2 k2 x3_2 false l0_0 l0_1 a0_2 ((rd_T53 l0_0 x3_2).f0) ((rd_T53 l0_0 x3_2).f1) bq31 ((rd_T53 l0_0 x3_2).f3)) else (cowrieref20_Check.j2 k2 x3_2 (decide ((((rd_T53 l0_0 x3_2).f3).length : Int) > 0)) l0_0 l0_1 a0_2 ((rd_T53 l0_0 x3_2).f0) ((rd_T53 l0_0 x3_2).f1) bq31 ((rd_T53 l0_0 x3_2).f3))) else (cowrieref20_Check.j2 k2 x3_2 true l0_0 l0_1 a0_2 ((rd_T53 l0_0 x3_2).f0) ((rd_T53 l0_0 x3_2).f1) bq31 ((rd_T53 l0_0 x3_2).f3))) else (if (bq31 = true) then (cowrieref20_Check.j2 k2 x3_2 false l0_0 l0_1 a0_2 ((rd_T53 l0_0 x3_2).f0) ((rd_T53 l0_0 x3_2).f1) bq31 ((rd_T53 l0_0 x3_2).f3)) else (cowrieref20_Check.j2 k2 x3_2 (decide ((((rd_T53 l0_0 x3_2).f3).length : Int) > 0)) l0_0 l0_1 a0_2 ((rd_T53 l0_0 x3_2).f0) ((rd_T53 l0_0 x3_2).f1) bq31 ((rd_T53 l0_0 x3_2).f3)))) = some r := by rw [← hbq31] at H; exact H
                          have Nbq31 := Aside0.mk hbq31
                          clear hbq31
                          by_cases c32 : bq31 = true
                          · subst c32
                            have nb31 := Nbq31.out.symm
                            have H1 : (if ((rd_T53 l0_0 x3_2).f1).toList = ([] : List UInt8) then (if (true = true) then (cowrieref20_Check.j2 k2 x3_2 false l0_0 l0_1 a0_2 ((rd_T53 l0_0 x3_2).f0) ((rd_T53 l0_0 x3_2).f1) true ((rd_T53 l0_0 x3_2).f3)) else (cowrieref20_Check.j2 k2 x3_2 (decide ((((rd_T53 l0_0 x3_2).f3).length : Int) > 0)) l0_0 l0_1 a0_2 ((rd_T53 l0_0 x3_2).f0) ((rd_T53 l0_0 x3_2).f1) true ((rd_T53 l0_0 x3_2).f3))) else (cowrieref20_Check.j2 k2 x3_2 true l0_0 l0_1 a0_2 ((rd_T53 l0_0 x3_2).f0) ((rd_T53 l0_0 x3_2).f1) true ((rd_T53 l0_0 x3_2).f3))) = some r := by rw [if_pos rfl] at H; exact H
                            clear H
                            have H := H1
                            clear H1
                            by_cases c33 : ((rd_T53 l0_0 x3_2).f1).toList = ([] : List UInt8)
                            · rw [if_pos c33] at H
                              have c33b0 : (((rd_T53 l0_0 x3_2).f1).toList == ([] : List UInt8)) = true := beq_iff_eq.mpr c33
                              have c33b1 : (((rd_T53 l0_0 x3_2).f1).toList != ([] : List UInt8)) = false := bne_eq_false_iff_eq.mpr c33
                              clear c33
                              by_cases c34 : (true = true)
                              · clear c34
                                have H1 : (cowrieref20_Check.j2 k2 x3_2 false l0_0 l0_1 a0_2 ((rd_T53 l0_0 x3_2).f0) ((rd_T53 l0_0 x3_2).f1) true ((rd_T53 l0_0 x3_2).f3)) = some r := by rw [if_pos rfl] at H; exact H
                                clear H
                                have H := H1
                                clear H1
                                have H' := Aside0.mk H
                                clear H
                                have hnb35 := NB287_284.out
                                have hnc35 := NB284_287.out
                                have hcz36_0 : w19.cell? ⟨gb287, 0, none⟩ = some (.string (⟨#[]⟩ : ByteArray)) := (blk_cell BK287.out 0).trans rfl
                                have hcz36_1 : w19.cell? ⟨gb287, 1, none⟩ = some (.string (⟨#[]⟩ : ByteArray)) := (blk_cell BK287.out 1).trans rfl
                                have hcz36_2 : w19.cell? ⟨gb287, 2, none⟩ = some (.bool false) := (blk_cell BK287.out 2).trans rfl
                                have hcz36_3 : w19.cell? ⟨gb287, 3, none⟩ = some (.slice none 0 0) := (blk_cell BK287.out 3).trans rfl
                                have hfz36_0 := blk_frozen BK287.out 0
                                have hfz36_1 := blk_frozen BK287.out 1
                                have hfz36_2 := blk_frozen BK287.out 2
                                have hfz36_3 := blk_frozen BK287.out 3
                                go_wp2_with (first | (go_at_call 27; (with_reducible refine (cowrieref01_Name.calls k2 ((rd_T53 l0_0 x3_2).f0) true _ A22.out).mono ?_); rintro e w' ⟨rfl, ⟨nd, rfl⟩⟩; (try first | exact ⟨rfl, _, World.drewN_drewN _ _ _⟩ | exact ⟨rfl, _, Eq.trans (World.drewN_drewN _ _ _) (congrArg (World.drewN _) (Nat.add_assoc _ _ _))⟩)) | (go_at_call 28; (with_reducible refine (cowrieref20_text.calls k2 ((rd_T53 l0_0 x3_2).f1) t289 _ A24.out).mono ?_); rintro e w' ⟨rfl, ⟨nd, rfl⟩⟩; (try first | exact ⟨rfl, _, World.drewN_drewN _ _ _⟩ | exact ⟨rfl, _, Eq.trans (World.drewN_drewN _ _ _) (congrArg (World.drewN _) (Nat.add_assoc _ _ _))⟩)) | (go_at_call 26; (with_reducible refine (cowrieref20_texts.calls k2 _ _ ((rd_T53 l0_0 x3_2).f3) t290 _ ?side1 ?side2 A26.out).mono ?_); (case side1 => exact Kd.C_below HR286_3.out (by repeat (first | (with_reducible first | exact HB.out | apply below_alloc | apply pw_below_drewN | apply below_drew1 | refine below_set ?_ GE284.out | refine below_set ?_ GE287.out) | exact HB.out))); (case side2 => exact HC286_3.out); rintro e w' ⟨rfl, ⟨nd, rfl⟩⟩; (try first | exact ⟨rfl, _, World.drewN_drewN _ _ _⟩ | exact ⟨rfl, _, Eq.trans (World.drewN_drewN _ _ _) (congrArg (World.drewN _) (Nat.add_assoc _ _ _))⟩)))
                                repeat (go_quiet (first | (go_at_call 27; (with_reducible refine (cowrieref01_Name.calls k2 ((rd_T53 l0_0 x3_2).f0) true _ A22.out).mono ?_); rintro e w' ⟨rfl, ⟨nd, rfl⟩⟩; (try first | exact ⟨rfl, _, World.drewN_drewN _ _ _⟩ | exact ⟨rfl, _, Eq.trans (World.drewN_drewN _ _ _) (congrArg (World.drewN _) (Nat.add_assoc _ _ _))⟩)) | (go_at_call 28; (with_reducible refine (cowrieref20_text.calls k2 ((rd_T53 l0_0 x3_2).f1) t289 _ A24.out).mono ?_); rintro e w' ⟨rfl, ⟨nd, rfl⟩⟩; (try first | exact ⟨rfl, _, World.drewN_drewN _ _ _⟩ | exact ⟨rfl, _, Eq.trans (World.drewN_drewN _ _ _) (congrArg (World.drewN _) (Nat.add_assoc _ _ _))⟩)) | (go_at_call 26; (with_reducible refine (cowrieref20_texts.calls k2 _ _ ((rd_T53 l0_0 x3_2).f3) t290 _ ?side1 ?side2 A26.out).mono ?_); (case side1 => exact Kd.C_below HR286_3.out (by repeat (first | (with_reducible first | exact HB.out | apply below_alloc | apply pw_below_drewN | apply below_drew1 | refine below_set ?_ GE284.out | refine below_set ?_ GE287.out) | exact HB.out))); (case side2 => exact HC286_3.out); rintro e w' ⟨rfl, ⟨nd, rfl⟩⟩; (try first | exact ⟨rfl, _, World.drewN_drewN _ _ _⟩ | exact ⟨rfl, _, Eq.trans (World.drewN_drewN _ _ _) (congrArg (World.drewN _) (Nat.add_assoc _ _ _))⟩))); try go_wp2_with (first | (go_at_call 27; (with_reducible refine (cowrieref01_Name.calls k2 ((rd_T53 l0_0 x3_2).f0) true _ A22.out).mono ?_); rintro e w' ⟨rfl, ⟨nd, rfl⟩⟩; (try first | exact ⟨rfl, _, World.drewN_drewN _ _ _⟩ | exact ⟨rfl, _, Eq.trans (World.drewN_drewN _ _ _) (congrArg (World.drewN _) (Nat.add_assoc _ _ _))⟩)) | (go_at_call 28; (with_reducible refine (cowrieref20_text.calls k2 ((rd_T53 l0_0 x3_2).f1) t289 _ A24.out).mono ?_); rintro e w' ⟨rfl, ⟨nd, rfl⟩⟩; (try first | exact ⟨rfl, _, World.drewN_drewN _ _ _⟩ | exact ⟨rfl, _, Eq.trans (World.drewN_drewN _ _ _) (congrArg (World.drewN _) (Nat.add_assoc _ _ _))⟩)) | (go_at_call 26; (with_reducible refine (cowrieref20_texts.calls k2 _ _ ((rd_T53 l0_0 x3_2).f3) t290 _ ?side1 ?side2 A26.out).mono ?_); (case side1 => exact Kd.C_below HR286_3.out (by repeat (first | (with_reducible first | exact HB.out | apply below_alloc | apply pw_below_drewN | apply below_drew1 | refine below_set ?_ GE284.out | refine below_set ?_ GE287.out) | exact HB.out))); (case side2 => exact HC286_3.out); rintro e w' ⟨rfl, ⟨nd, rfl⟩⟩; (try first | exact ⟨rfl, _, World.drewN_drewN _ _ _⟩ | exact ⟨rfl, _, Eq.trans (World.drewN_drewN _ _ _) (congrArg (World.drewN _) (Nat.add_assoc _ _ _))⟩))))
                                go_meet
                                case rel => (try rw [← Nbq31.out]); exact ⟨_, (false), (by first | rfl | (simp; done) | (simp [*]; done)), H', ⟨by have := HJ1.out; have := HK2.out; first | omega | exact Nat.le_refl _⟩, ⟨by (with_reducible repeat (first | refine blk_drewN ?_ _ | refine blk_drew ?_ | refine blk_alloc ?_ _)); refine blk_far ?_ NB284_287.out _; (with_reducible repeat (first | refine blk_drewN ?_ _ | refine blk_drew ?_ | refine blk_alloc ?_ _)); refine blk_far ?_ NB284_287.out _; (with_reducible repeat (first | refine blk_drewN ?_ _ | refine blk_drew ?_ | refine blk_alloc ?_ _)); refine blk_far ?_ NB284_287.out _; (with_reducible repeat (first | refine blk_drewN ?_ _ | refine blk_drew ?_ | refine blk_alloc ?_ _)); refine blk_far ?_ NB284_287.out _; (with_reducible repeat (first | refine blk_drewN ?_ _ | refine blk_drew ?_ | refine blk_alloc ?_ _)); exact BK284.out⟩, ⟨by (with_reducible repeat (first | refine blk_drewN ?_ _ | refine blk_drew ?_ | refine blk_alloc ?_ _)); refine blk_put (cs := #[.string ((rd_T53 l0_0 x3_2).f0), .string ((rd_T53 l0_0 x3_2).f1), .bool (true), .slice none 0 0]) ?_ 3 _ rfl; (with_reducible repeat (first | refine blk_drewN ?_ _ | refine blk_drew ?_ | refine blk_alloc ?_ _)); refine blk_put (cs := #[.string ((rd_T53 l0_0 x3_2).f0), .string ((rd_T53 l0_0 x3_2).f1), .bool false, .slice none 0 0]) ?_ 2 _ rfl; (with_reducible repeat (first | refine blk_drewN ?_ _ | refine blk_drew ?_ | refine blk_alloc ?_ _)); refine blk_put (cs := #[.string ((rd_T53 l0_0 x3_2).f0), .string (⟨#[]⟩ : ByteArray), .bool false, .slice none 0 0]) ?_ 1 _ rfl; (with_reducible repeat (first | refine blk_drewN ?_ _ | refine blk_drew ?_ | refine blk_alloc ?_ _)); refine blk_put (cs := #[.string (⟨#[]⟩ : ByteArray), .string (⟨#[]⟩ : ByteArray), .bool false, .slice none 0 0]) ?_ 0 _ rfl; (with_reducible repeat (first | refine blk_drewN ?_ _ | refine blk_drew ?_ | refine blk_alloc ?_ _)); exact BK287.out⟩, ⟨by repeat (first | (with_reducible first | exact HB.out | apply below_alloc | apply pw_below_drewN | apply below_drew1 | refine below_set ?_ GE284.out | refine below_set ?_ GE287.out) | exact HB.out)⟩⟩
                              · exact absurd rfl c34
                            · rw [if_neg c33] at H
                              have c33b0 : (((rd_T53 l0_0 x3_2).f1).toList == ([] : List UInt8)) = false := beq_eq_false_iff_ne.mpr c33
                              have c33b1 : (((rd_T53 l0_0 x3_2).f1).toList != ([] : List UInt8)) = true := bne_iff_ne.mpr c33
                              have H' := Aside0.mk H
                              clear H
                              have hnb39 := NB287_284.out
                              have hnc39 := NB284_287.out
                              have hcz40_0 : w19.cell? ⟨gb287, 0, none⟩ = some (.string (⟨#[]⟩ : ByteArray)) := (blk_cell BK287.out 0).trans rfl
                              have hcz40_1 : w19.cell? ⟨gb287, 1, none⟩ = some (.string (⟨#[]⟩ : ByteArray)) := (blk_cell BK287.out 1).trans rfl
                              have hcz40_2 : w19.cell? ⟨gb287, 2, none⟩ = some (.bool false) := (blk_cell BK287.out 2).trans rfl
                              have hcz40_3 : w19.cell? ⟨gb287, 3, none⟩ = some (.slice none 0 0) := (blk_cell BK287.out 3).trans rfl
                              have hfz40_0 := blk_frozen BK287.out 0
                              have hfz40_1 := blk_frozen BK287.out 1
                              have hfz40_2 := blk_frozen BK287.out 2
                              have hfz40_3 := blk_frozen BK287.out 3
                              go_wp2_with (first | (go_at_call 27; (with_reducible refine (cowrieref01_Name.calls k2 ((rd_T53 l0_0 x3_2).f0) true _ A22.out).mono ?_); rintro e w' ⟨rfl, ⟨nd, rfl⟩⟩; (try first | exact ⟨rfl, _, World.drewN_drewN _ _ _⟩ | exact ⟨rfl, _, Eq.trans (World.drewN_drewN _ _ _) (congrArg (World.drewN _) (Nat.add_assoc _ _ _))⟩)) | (go_at_call 28; (with_reducible refine (cowrieref20_text.calls k2 ((rd_T53 l0_0 x3_2).f1) t289 _ A24.out).mono ?_); rintro e w' ⟨rfl, ⟨nd, rfl⟩⟩; (try first | exact ⟨rfl, _, World.drewN_drewN _ _ _⟩ | exact ⟨rfl, _, Eq.trans (World.drewN_drewN _ _ _) (congrArg (World.drewN _) (Nat.add_assoc _ _ _))⟩)) | (go_at_call 26; (with_reducible refine (cowrieref20_texts.calls k2 _ _ ((rd_T53 l0_0 x3_2).f3) t290 _ ?side1 ?side2 A26.out).mono ?_); (case side1 => exact Kd.C_below HR286_3.out (by repeat (first | (with_reducible first | exact HB.out | apply below_alloc | apply pw_below_drewN | apply below_drew1 | refine below_set ?_ GE284.out | refine below_set ?_ GE287.out) | exact HB.out))); (case side2 => exact HC286_3.out); rintro e w' ⟨rfl, ⟨nd, rfl⟩⟩; (try first | exact ⟨rfl, _, World.drewN_drewN _ _ _⟩ | exact ⟨rfl, _, Eq.trans (World.drewN_drewN _ _ _) (congrArg (World.drewN _) (Nat.add_assoc _ _ _))⟩)))
                              repeat (go_quiet (first | (go_at_call 27; (with_reducible refine (cowrieref01_Name.calls k2 ((rd_T53 l0_0 x3_2).f0) true _ A22.out).mono ?_); rintro e w' ⟨rfl, ⟨nd, rfl⟩⟩; (try first | exact ⟨rfl, _, World.drewN_drewN _ _ _⟩ | exact ⟨rfl, _, Eq.trans (World.drewN_drewN _ _ _) (congrArg (World.drewN _) (Nat.add_assoc _ _ _))⟩)) | (go_at_call 28; (with_reducible refine (cowrieref20_text.calls k2 ((rd_T53 l0_0 x3_2).f1) t289 _ A24.out).mono ?_); rintro e w' ⟨rfl, ⟨nd, rfl⟩⟩; (try first | exact ⟨rfl, _, World.drewN_drewN _ _ _⟩ | exact ⟨rfl, _, Eq.trans (World.drewN_drewN _ _ _) (congrArg (World.drewN _) (Nat.add_assoc _ _ _))⟩)) | (go_at_call 26; (with_reducible refine (cowrieref20_texts.calls k2 _ _ ((rd_T53 l0_0 x3_2).f3) t290 _ ?side1 ?side2 A26.out).mono ?_); (case side1 => exact Kd.C_below HR286_3.out (by repeat (first | (with_reducible first | exact HB.out | apply below_alloc | apply pw_below_drewN | apply below_drew1 | refine below_set ?_ GE284.out | refine below_set ?_ GE287.out) | exact HB.out))); (case side2 => exact HC286_3.out); rintro e w' ⟨rfl, ⟨nd, rfl⟩⟩; (try first | exact ⟨rfl, _, World.drewN_drewN _ _ _⟩ | exact ⟨rfl, _, Eq.trans (World.drewN_drewN _ _ _) (congrArg (World.drewN _) (Nat.add_assoc _ _ _))⟩))); try go_wp2_with (first | (go_at_call 27; (with_reducible refine (cowrieref01_Name.calls k2 ((rd_T53 l0_0 x3_2).f0) true _ A22.out).mono ?_); rintro e w' ⟨rfl, ⟨nd, rfl⟩⟩; (try first | exact ⟨rfl, _, World.drewN_drewN _ _ _⟩ | exact ⟨rfl, _, Eq.trans (World.drewN_drewN _ _ _) (congrArg (World.drewN _) (Nat.add_assoc _ _ _))⟩)) | (go_at_call 28; (with_reducible refine (cowrieref20_text.calls k2 ((rd_T53 l0_0 x3_2).f1) t289 _ A24.out).mono ?_); rintro e w' ⟨rfl, ⟨nd, rfl⟩⟩; (try first | exact ⟨rfl, _, World.drewN_drewN _ _ _⟩ | exact ⟨rfl, _, Eq.trans (World.drewN_drewN _ _ _) (congrArg (World.drewN _) (Nat.add_assoc _ _ _))⟩)) | (go_at_call 26; (with_reducible refine (cowrieref20_texts.calls k2 _ _ ((rd_T53 l0_0 x3_2).f3) t290 _ ?side1 ?side2 A26.out).mono ?_); (case side1 => exact Kd.C_below HR286_3.out (by repeat (first | (with_reducible first | exact HB.out | apply below_alloc | apply pw_below_drewN | apply below_drew1 | refine below_set ?_ GE284.out | refine below_set ?_ GE287.out) | exact HB.out))); (case side2 => exact HC286_3.out); rintro e w' ⟨rfl, ⟨nd, rfl⟩⟩; (try first | exact ⟨rfl, _, World.drewN_drewN _ _ _⟩ | exact ⟨rfl, _, Eq.trans (World.drewN_drewN _ _ _) (congrArg (World.drewN _) (Nat.add_assoc _ _ _))⟩))))
                              go_meet
                              case rel => (try rw [← Nbq31.out]); exact ⟨_, (true), (by first | rfl | (simp; done) | (simp [*]; done)), H', ⟨by have := HJ1.out; have := HK2.out; first | omega | exact Nat.le_refl _⟩, ⟨by (with_reducible repeat (first | refine blk_drewN ?_ _ | refine blk_drew ?_ | refine blk_alloc ?_ _)); refine blk_far ?_ NB284_287.out _; (with_reducible repeat (first | refine blk_drewN ?_ _ | refine blk_drew ?_ | refine blk_alloc ?_ _)); refine blk_far ?_ NB284_287.out _; (with_reducible repeat (first | refine blk_drewN ?_ _ | refine blk_drew ?_ | refine blk_alloc ?_ _)); refine blk_far ?_ NB284_287.out _; (with_reducible repeat (first | refine blk_drewN ?_ _ | refine blk_drew ?_ | refine blk_alloc ?_ _)); refine blk_far ?_ NB284_287.out _; (with_reducible repeat (first | refine blk_drewN ?_ _ | refine blk_drew ?_ | refine blk_alloc ?_ _)); exact BK284.out⟩, ⟨by (with_reducible repeat (first | refine blk_drewN ?_ _ | refine blk_drew ?_ | refine blk_alloc ?_ _)); refine blk_put (cs := #[.string ((rd_T53 l0_0 x3_2).f0), .string ((rd_T53 l0_0 x3_2).f1), .bool (true), .slice none 0 0]) ?_ 3 _ rfl; (with_reducible repeat (first | refine blk_drewN ?_ _ | refine blk_drew ?_ | refine blk_alloc ?_ _)); refine blk_put (cs := #[.string ((rd_T53 l0_0 x3_2).f0), .string ((rd_T53 l0_0 x3_2).f1), .bool false, .slice none 0 0]) ?_ 2 _ rfl; (with_reducible repeat (first | refine blk_drewN ?_ _ | refine blk_drew ?_ | refine blk_alloc ?_ _)); refine blk_put (cs := #[.string ((rd_T53 l0_0 x3_2).f0), .string (⟨#[]⟩ : ByteArray), .bool false, .slice none 0 0]) ?_ 1 _ rfl; (with_reducible repeat (first | refine blk_drewN ?_ _ | refine blk_drew ?_ | refine blk_alloc ?_ _)); refine blk_put (cs := #[.string (⟨#[]⟩ : ByteArray), .string (⟨#[]⟩ : ByteArray), .bool false, .slice none 0 0]) ?_ 0 _ rfl; (with_reducible repeat (first | refine blk_drewN ?_ _ | refine blk_drew ?_ | refine blk_alloc ?_ _)); exact BK287.out⟩, ⟨by repeat (first | (with_reducible first | exact HB.out | apply below_alloc | apply pw_below_drewN | apply below_drew1 | refine below_set ?_ GE284.out | refine below_set ?_ GE287.out) | exact HB.out)⟩⟩
                          · replace c32 := Bool.eq_false_iff.mpr c32
                            subst c32
                            have nb31 := Nbq31.out.symm
                            have H1 : (if (false = true) then (cowrieref20_Check.j2 k2 x3_2 false l0_0 l0_1 a0_2 ((rd_T53 l0_0 x3_2).f0) ((rd_T53 l0_0 x3_2).f1) false ((rd_T53 l0_0 x3_2).f3)) else (cowrieref20_Check.j2 k2 x3_2 (decide ((((rd_T53 l0_0 x3_2).f3).length : Int) > 0)) l0_0 l0_1 a0_2 ((rd_T53 l0_0 x3_2).f0) ((rd_T53 l0_0 x3_2).f1) false ((rd_T53 l0_0 x3_2).f3))) = some r := by rw [if_neg (show ¬ (false = true) by decide)] at H; exact H
                            clear H
                            have H := H1
                            clear H1
                            by_cases c41 : (false = true)
                            · exact absurd c41 (by decide)
                            · clear c41
                              have H1 : (cowrieref20_Check.j2 k2 x3_2 (decide ((((rd_T53 l0_0 x3_2).f3).length : Int) > 0)) l0_0 l0_1 a0_2 ((rd_T53 l0_0 x3_2).f0) ((rd_T53 l0_0 x3_2).f1) false ((rd_T53 l0_0 x3_2).f3)) = some r := by rw [if_neg (show ¬ (false = true) by decide)] at H; exact H
                              clear H
                              have H := H1
                              clear H1
                              have H' := Aside0.mk H
                              clear H
                              have hnb44 := NB287_284.out
                              have hnc44 := NB284_287.out
                              have hcz45_0 : w19.cell? ⟨gb287, 0, none⟩ = some (.string (⟨#[]⟩ : ByteArray)) := (blk_cell BK287.out 0).trans rfl
                              have hcz45_1 : w19.cell? ⟨gb287, 1, none⟩ = some (.string (⟨#[]⟩ : ByteArray)) := (blk_cell BK287.out 1).trans rfl
                              have hcz45_2 : w19.cell? ⟨gb287, 2, none⟩ = some (.bool false) := (blk_cell BK287.out 2).trans rfl
                              have hcz45_3 : w19.cell? ⟨gb287, 3, none⟩ = some (.slice none 0 0) := (blk_cell BK287.out 3).trans rfl
                              have hfz45_0 := blk_frozen BK287.out 0
                              have hfz45_1 := blk_frozen BK287.out 1
                              have hfz45_2 := blk_frozen BK287.out 2
                              have hfz45_3 := blk_frozen BK287.out 3
                              go_wp2_with (first | (go_at_call 27; (with_reducible refine (cowrieref01_Name.calls k2 ((rd_T53 l0_0 x3_2).f0) true _ A22.out).mono ?_); rintro e w' ⟨rfl, ⟨nd, rfl⟩⟩; (try first | exact ⟨rfl, _, World.drewN_drewN _ _ _⟩ | exact ⟨rfl, _, Eq.trans (World.drewN_drewN _ _ _) (congrArg (World.drewN _) (Nat.add_assoc _ _ _))⟩)) | (go_at_call 28; (with_reducible refine (cowrieref20_text.calls k2 ((rd_T53 l0_0 x3_2).f1) t289 _ A24.out).mono ?_); rintro e w' ⟨rfl, ⟨nd, rfl⟩⟩; (try first | exact ⟨rfl, _, World.drewN_drewN _ _ _⟩ | exact ⟨rfl, _, Eq.trans (World.drewN_drewN _ _ _) (congrArg (World.drewN _) (Nat.add_assoc _ _ _))⟩)) | (go_at_call 26; (with_reducible refine (cowrieref20_texts.calls k2 _ _ ((rd_T53 l0_0 x3_2).f3) t290 _ ?side1 ?side2 A26.out).mono ?_); (case side1 => exact Kd.C_below HR286_3.out (by repeat (first | (with_reducible first | exact HB.out | apply below_alloc | apply pw_below_drewN | apply below_drew1 | refine below_set ?_ GE284.out | refine below_set ?_ GE287.out) | exact HB.out))); (case side2 => exact HC286_3.out); rintro e w' ⟨rfl, ⟨nd, rfl⟩⟩; (try first | exact ⟨rfl, _, World.drewN_drewN _ _ _⟩ | exact ⟨rfl, _, Eq.trans (World.drewN_drewN _ _ _) (congrArg (World.drewN _) (Nat.add_assoc _ _ _))⟩)))
                              repeat (go_quiet (first | (go_at_call 27; (with_reducible refine (cowrieref01_Name.calls k2 ((rd_T53 l0_0 x3_2).f0) true _ A22.out).mono ?_); rintro e w' ⟨rfl, ⟨nd, rfl⟩⟩; (try first | exact ⟨rfl, _, World.drewN_drewN _ _ _⟩ | exact ⟨rfl, _, Eq.trans (World.drewN_drewN _ _ _) (congrArg (World.drewN _) (Nat.add_assoc _ _ _))⟩)) | (go_at_call 28; (with_reducible refine (cowrieref20_text.calls k2 ((rd_T53 l0_0 x3_2).f1) t289 _ A24.out).mono ?_); rintro e w' ⟨rfl, ⟨nd, rfl⟩⟩; (try first | exact ⟨rfl, _, World.drewN_drewN _ _ _⟩ | exact ⟨rfl, _, Eq.trans (World.drewN_drewN _ _ _) (congrArg (World.drewN _) (Nat.add_assoc _ _ _))⟩)) | (go_at_call 26; (with_reducible refine (cowrieref20_texts.calls k2 _ _ ((rd_T53 l0_0 x3_2).f3) t290 _ ?side1 ?side2 A26.out).mono ?_); (case side1 => exact Kd.C_below HR286_3.out (by repeat (first | (with_reducible first | exact HB.out | apply below_alloc | apply pw_below_drewN | apply below_drew1 | refine below_set ?_ GE284.out | refine below_set ?_ GE287.out) | exact HB.out))); (case side2 => exact HC286_3.out); rintro e w' ⟨rfl, ⟨nd, rfl⟩⟩; (try first | exact ⟨rfl, _, World.drewN_drewN _ _ _⟩ | exact ⟨rfl, _, Eq.trans (World.drewN_drewN _ _ _) (congrArg (World.drewN _) (Nat.add_assoc _ _ _))⟩))); try go_wp2_with (first | (go_at_call 27; (with_reducible refine (cowrieref01_Name.calls k2 ((rd_T53 l0_0 x3_2).f0) true _ A22.out).mono ?_); rintro e w' ⟨rfl, ⟨nd, rfl⟩⟩; (try first | exact ⟨rfl, _, World.drewN_drewN _ _ _⟩ | exact ⟨rfl, _, Eq.trans (World.drewN_drewN _ _ _) (congrArg (World.drewN _) (Nat.add_assoc _ _ _))⟩)) | (go_at_call 28; (with_reducible refine (cowrieref20_text.calls k2 ((rd_T53 l0_0 x3_2).f1) t289 _ A24.out).mono ?_); rintro e w' ⟨rfl, ⟨nd, rfl⟩⟩; (try first | exact ⟨rfl, _, World.drewN_drewN _ _ _⟩ | exact ⟨rfl, _, Eq.trans (World.drewN_drewN _ _ _) (congrArg (World.drewN _) (Nat.add_assoc _ _ _))⟩)) | (go_at_call 26; (with_reducible refine (cowrieref20_texts.calls k2 _ _ ((rd_T53 l0_0 x3_2).f3) t290 _ ?side1 ?side2 A26.out).mono ?_); (case side1 => exact Kd.C_below HR286_3.out (by repeat (first | (with_reducible first | exact HB.out | apply below_alloc | apply pw_below_drewN | apply below_drew1 | refine below_set ?_ GE284.out | refine below_set ?_ GE287.out) | exact HB.out))); (case side2 => exact HC286_3.out); rintro e w' ⟨rfl, ⟨nd, rfl⟩⟩; (try first | exact ⟨rfl, _, World.drewN_drewN _ _ _⟩ | exact ⟨rfl, _, Eq.trans (World.drewN_drewN _ _ _) (congrArg (World.drewN _) (Nat.add_assoc _ _ _))⟩))))
                              go_meet
                              case rel => (try rw [← Nbq31.out]); exact ⟨_, (decide ((((rd_T53 l0_0 x3_2).f3).length : Int) > 0)), (by first | rfl | (simp; done) | (simp [*]; done)), H', ⟨by have := HJ1.out; have := HK2.out; first | omega | exact Nat.le_refl _⟩, ⟨by (with_reducible repeat (first | refine blk_drewN ?_ _ | refine blk_drew ?_ | refine blk_alloc ?_ _)); refine blk_far ?_ NB284_287.out _; (with_reducible repeat (first | refine blk_drewN ?_ _ | refine blk_drew ?_ | refine blk_alloc ?_ _)); refine blk_far ?_ NB284_287.out _; (with_reducible repeat (first | refine blk_drewN ?_ _ | refine blk_drew ?_ | refine blk_alloc ?_ _)); refine blk_far ?_ NB284_287.out _; (with_reducible repeat (first | refine blk_drewN ?_ _ | refine blk_drew ?_ | refine blk_alloc ?_ _)); refine blk_far ?_ NB284_287.out _; (with_reducible repeat (first | refine blk_drewN ?_ _ | refine blk_drew ?_ | refine blk_alloc ?_ _)); exact BK284.out⟩, ⟨by (with_reducible repeat (first | refine blk_drewN ?_ _ | refine blk_drew ?_ | refine blk_alloc ?_ _)); refine blk_put (cs := #[.string ((rd_T53 l0_0 x3_2).f0), .string ((rd_T53 l0_0 x3_2).f1), .bool (false), .slice none 0 0]) ?_ 3 _ rfl; (with_reducible repeat (first | refine blk_drewN ?_ _ | refine blk_drew ?_ | refine blk_alloc ?_ _)); refine blk_put (cs := #[.string ((rd_T53 l0_0 x3_2).f0), .string ((rd_T53 l0_0 x3_2).f1), .bool false, .slice none 0 0]) ?_ 2 _ rfl; (with_reducible repeat (first | refine blk_drewN ?_ _ | refine blk_drew ?_ | refine blk_alloc ?_ _)); refine blk_put (cs := #[.string ((rd_T53 l0_0 x3_2).f0), .string (⟨#[]⟩ : ByteArray), .bool false, .slice none 0 0]) ?_ 1 _ rfl; (with_reducible repeat (first | refine blk_drewN ?_ _ | refine blk_drew ?_ | refine blk_alloc ?_ _)); refine blk_put (cs := #[.string (⟨#[]⟩ : ByteArray), .string (⟨#[]⟩ : ByteArray), .bool false, .slice none 0 0]) ?_ 0 _ rfl; (with_reducible repeat (first | refine blk_drewN ?_ _ | refine blk_drew ?_ | refine blk_alloc ?_ _)); exact BK287.out⟩, ⟨by repeat (first | (with_reducible first | exact HB.out | apply below_alloc | apply pw_below_drewN | apply below_drew1 | refine below_set ?_ GE284.out | refine below_set ?_ GE287.out) | exact HB.out)⟩⟩
                      · rw [if_neg c27] at H
                        have c27b0 : (t290 == 0) = false := beq_eq_false_iff_ne.mpr c27
                        have c27b1 : (t290 != 0) = true := bne_iff_ne.mpr c27
                        have H' := Aside0.mk H
                        clear H
                        have hnb46 := NB287_284.out
                        have hnc46 := NB284_287.out
                        have hcz47_0 : w19.cell? ⟨gb287, 0, none⟩ = some (.string (⟨#[]⟩ : ByteArray)) := (blk_cell BK287.out 0).trans rfl
                        have hcz47_1 : w19.cell? ⟨gb287, 1, none⟩ = some (.string (⟨#[]⟩ : ByteArray)) := (blk_cell BK287.out 1).trans rfl
                        have hcz47_2 : w19.cell? ⟨gb287, 2, none⟩ = some (.bool false) := (blk_cell BK287.out 2).trans rfl
                        have hcz47_3 : w19.cell? ⟨gb287, 3, none⟩ = some (.slice none 0 0) := (blk_cell BK287.out 3).trans rfl
                        have hfz47_0 := blk_frozen BK287.out 0
                        have hfz47_1 := blk_frozen BK287.out 1
                        have hfz47_2 := blk_frozen BK287.out 2
                        have hfz47_3 := blk_frozen BK287.out 3
                        go_wp2_with (first | (go_at_call 27; (with_reducible refine (cowrieref01_Name.calls k2 ((rd_T53 l0_0 x3_2).f0) true _ A22.out).mono ?_); rintro e w' ⟨rfl, ⟨nd, rfl⟩⟩; (try first | exact ⟨rfl, _, World.drewN_drewN _ _ _⟩ | exact ⟨rfl, _, Eq.trans (World.drewN_drewN _ _ _) (congrArg (World.drewN _) (Nat.add_assoc _ _ _))⟩)) | (go_at_call 28; (with_reducible refine (cowrieref20_text.calls k2 ((rd_T53 l0_0 x3_2).f1) t289 _ A24.out).mono ?_); rintro e w' ⟨rfl, ⟨nd, rfl⟩⟩; (try first | exact ⟨rfl, _, World.drewN_drewN _ _ _⟩ | exact ⟨rfl, _, Eq.trans (World.drewN_drewN _ _ _) (congrArg (World.drewN _) (Nat.add_assoc _ _ _))⟩)) | (go_at_call 26; (with_reducible refine (cowrieref20_texts.calls k2 _ _ ((rd_T53 l0_0 x3_2).f3) t290 _ ?side1 ?side2 A26.out).mono ?_); (case side1 => exact Kd.C_below HR286_3.out (by repeat (first | (with_reducible first | exact HB.out | apply below_alloc | apply pw_below_drewN | apply below_drew1 | refine below_set ?_ GE284.out | refine below_set ?_ GE287.out) | exact HB.out))); (case side2 => exact HC286_3.out); rintro e w' ⟨rfl, ⟨nd, rfl⟩⟩; (try first | exact ⟨rfl, _, World.drewN_drewN _ _ _⟩ | exact ⟨rfl, _, Eq.trans (World.drewN_drewN _ _ _) (congrArg (World.drewN _) (Nat.add_assoc _ _ _))⟩)))
                        repeat (go_quiet (first | (go_at_call 27; (with_reducible refine (cowrieref01_Name.calls k2 ((rd_T53 l0_0 x3_2).f0) true _ A22.out).mono ?_); rintro e w' ⟨rfl, ⟨nd, rfl⟩⟩; (try first | exact ⟨rfl, _, World.drewN_drewN _ _ _⟩ | exact ⟨rfl, _, Eq.trans (World.drewN_drewN _ _ _) (congrArg (World.drewN _) (Nat.add_assoc _ _ _))⟩)) | (go_at_call 28; (with_reducible refine (cowrieref20_text.calls k2 ((rd_T53 l0_0 x3_2).f1) t289 _ A24.out).mono ?_); rintro e w' ⟨rfl, ⟨nd, rfl⟩⟩; (try first | exact ⟨rfl, _, World.drewN_drewN _ _ _⟩ | exact ⟨rfl, _, Eq.trans (World.drewN_drewN _ _ _) (congrArg (World.drewN _) (Nat.add_assoc _ _ _))⟩)) | (go_at_call 26; (with_reducible refine (cowrieref20_texts.calls k2 _ _ ((rd_T53 l0_0 x3_2).f3) t290 _ ?side1 ?side2 A26.out).mono ?_); (case side1 => exact Kd.C_below HR286_3.out (by repeat (first | (with_reducible first | exact HB.out | apply below_alloc | apply pw_below_drewN | apply below_drew1 | refine below_set ?_ GE284.out | refine below_set ?_ GE287.out) | exact HB.out))); (case side2 => exact HC286_3.out); rintro e w' ⟨rfl, ⟨nd, rfl⟩⟩; (try first | exact ⟨rfl, _, World.drewN_drewN _ _ _⟩ | exact ⟨rfl, _, Eq.trans (World.drewN_drewN _ _ _) (congrArg (World.drewN _) (Nat.add_assoc _ _ _))⟩))); try go_wp2_with (first | (go_at_call 27; (with_reducible refine (cowrieref01_Name.calls k2 ((rd_T53 l0_0 x3_2).f0) true _ A22.out).mono ?_); rintro e w' ⟨rfl, ⟨nd, rfl⟩⟩; (try first | exact ⟨rfl, _, World.drewN_drewN _ _ _⟩ | exact ⟨rfl, _, Eq.trans (World.drewN_drewN _ _ _) (congrArg (World.drewN _) (Nat.add_assoc _ _ _))⟩)) | (go_at_call 28; (with_reducible refine (cowrieref20_text.calls k2 ((rd_T53 l0_0 x3_2).f1) t289 _ A24.out).mono ?_); rintro e w' ⟨rfl, ⟨nd, rfl⟩⟩; (try first | exact ⟨rfl, _, World.drewN_drewN _ _ _⟩ | exact ⟨rfl, _, Eq.trans (World.drewN_drewN _ _ _) (congrArg (World.drewN _) (Nat.add_assoc _ _ _))⟩)) | (go_at_call 26; (with_reducible refine (cowrieref20_texts.calls k2 _ _ ((rd_T53 l0_0 x3_2).f3) t290 _ ?side1 ?side2 A26.out).mono ?_); (case side1 => exact Kd.C_below HR286_3.out (by repeat (first | (with_reducible first | exact HB.out | apply below_alloc | apply pw_below_drewN | apply below_drew1 | refine below_set ?_ GE284.out | refine below_set ?_ GE287.out) | exact HB.out))); (case side2 => exact HC286_3.out); rintro e w' ⟨rfl, ⟨nd, rfl⟩⟩; (try first | exact ⟨rfl, _, World.drewN_drewN _ _ _⟩ | exact ⟨rfl, _, Eq.trans (World.drewN_drewN _ _ _) (congrArg (World.drewN _) (Nat.add_assoc _ _ _))⟩))))
                        go_meet
                        case rel => (try rw [← Nbq31.out]); exact ⟨_, (true), (by first | rfl | (simp; done) | (simp [*]; done)), H', ⟨by have := HJ1.out; have := HK2.out; first | omega | exact Nat.le_refl _⟩, ⟨by (with_reducible repeat (first | refine blk_drewN ?_ _ | refine blk_drew ?_ | refine blk_alloc ?_ _)); refine blk_far ?_ NB284_287.out _; (with_reducible repeat (first | refine blk_drewN ?_ _ | refine blk_drew ?_ | refine blk_alloc ?_ _)); refine blk_far ?_ NB284_287.out _; (with_reducible repeat (first | refine blk_drewN ?_ _ | refine blk_drew ?_ | refine blk_alloc ?_ _)); refine blk_far ?_ NB284_287.out _; (with_reducible repeat (first | refine blk_drewN ?_ _ | refine blk_drew ?_ | refine blk_alloc ?_ _)); refine blk_far ?_ NB284_287.out _; (with_reducible repeat (first | refine blk_drewN ?_ _ | refine blk_drew ?_ | refine blk_alloc ?_ _)); exact BK284.out⟩, ⟨by (with_reducible repeat (first | refine blk_drewN ?_ _ | refine blk_drew ?_ | refine blk_alloc ?_ _)); refine blk_put (cs := #[.string ((rd_T53 l0_0 x3_2).f0), .string ((rd_T53 l0_0 x3_2).f1), .bool ((rd_T53 l0_0 x3_2).f2), .slice none 0 0]) ?_ 3 _ rfl; (with_reducible repeat (first | refine blk_drewN ?_ _ | refine blk_drew ?_ | refine blk_alloc ?_ _)); refine blk_put (cs := #[.string ((rd_T53 l0_0 x3_2).f0), .string ((rd_T53 l0_0 x3_2).f1), .bool false, .slice none 0 0]) ?_ 2 _ rfl; (with_reducible repeat (first | refine blk_drewN ?_ _ | refine blk_drew ?_ | refine blk_alloc ?_ _)); refine blk_put (cs := #[.string ((rd_T53 l0_0 x3_2).f0), .string (⟨#[]⟩ : ByteArray), .bool false, .slice none 0 0]) ?_ 1 _ rfl; (with_reducible repeat (first | refine blk_drewN ?_ _ | refine blk_drew ?_ | refine blk_alloc ?_ _)); refine blk_put (cs := #[.string (⟨#[]⟩ : ByteArray), .string (⟨#[]⟩ : ByteArray), .bool false, .slice none 0 0]) ?_ 0 _ rfl; (with_reducible repeat (first | refine blk_drewN ?_ _ | refine blk_drew ?_ | refine blk_alloc ?_ _)); exact BK287.out⟩, ⟨by repeat (first | (with_reducible first | exact HB.out | apply below_alloc | apply pw_below_drewN | apply below_drew1 | refine below_set ?_ GE284.out | refine below_set ?_ GE287.out) | exact HB.out)⟩⟩
                    · rw [if_neg c25] at H
                      have c25b0 : (t289 == 0) = false := beq_eq_false_iff_ne.mpr c25
                      have c25b1 : (t289 != 0) = true := bne_iff_ne.mpr c25
                      (first | rw [c25b0] | (simp only [i64_w, i32_w]; rw [c25b0]) | skip)
                      have H' := Aside0.mk H
                      clear H
                      have hnb48 := NB287_284.out
                      have hnc48 := NB284_287.out
                      have hcz49_0 : w19.cell? ⟨gb287, 0, none⟩ = some (.string (⟨#[]⟩ : ByteArray)) := (blk_cell BK287.out 0).trans rfl
                      have hcz49_1 : w19.cell? ⟨gb287, 1, none⟩ = some (.string (⟨#[]⟩ : ByteArray)) := (blk_cell BK287.out 1).trans rfl
                      have hcz49_2 : w19.cell? ⟨gb287, 2, none⟩ = some (.bool false) := (blk_cell BK287.out 2).trans rfl
                      have hcz49_3 : w19.cell? ⟨gb287, 3, none⟩ = some (.slice none 0 0) := (blk_cell BK287.out 3).trans rfl
                      have hfz49_0 := blk_frozen BK287.out 0
                      have hfz49_1 := blk_frozen BK287.out 1
                      have hfz49_2 := blk_frozen BK287.out 2
                      have hfz49_3 := blk_frozen BK287.out 3
                      go_wp2_with (first | (go_at_call 27; (with_reducible refine (cowrieref01_Name.calls k2 ((rd_T53 l0_0 x3_2).f0) true _ A22.out).mono ?_); rintro e w' ⟨rfl, ⟨nd, rfl⟩⟩; (try first | exact ⟨rfl, _, World.drewN_drewN _ _ _⟩ | exact ⟨rfl, _, Eq.trans (World.drewN_drewN _ _ _) (congrArg (World.drewN _) (Nat.add_assoc _ _ _))⟩)) | (go_at_call 28; (with_reducible refine (cowrieref20_text.calls k2 ((rd_T53 l0_0 x3_2).f1) t289 _ A24.out).mono ?_); rintro e w' ⟨rfl, ⟨nd, rfl⟩⟩; (try first | exact ⟨rfl, _, World.drewN_drewN _ _ _⟩ | exact ⟨rfl, _, Eq.trans (World.drewN_drewN _ _ _) (congrArg (World.drewN _) (Nat.add_assoc _ _ _))⟩)))
                      repeat (go_quiet (first | (go_at_call 27; (with_reducible refine (cowrieref01_Name.calls k2 ((rd_T53 l0_0 x3_2).f0) true _ A22.out).mono ?_); rintro e w' ⟨rfl, ⟨nd, rfl⟩⟩; (try first | exact ⟨rfl, _, World.drewN_drewN _ _ _⟩ | exact ⟨rfl, _, Eq.trans (World.drewN_drewN _ _ _) (congrArg (World.drewN _) (Nat.add_assoc _ _ _))⟩)) | (go_at_call 28; (with_reducible refine (cowrieref20_text.calls k2 ((rd_T53 l0_0 x3_2).f1) t289 _ A24.out).mono ?_); rintro e w' ⟨rfl, ⟨nd, rfl⟩⟩; (try first | exact ⟨rfl, _, World.drewN_drewN _ _ _⟩ | exact ⟨rfl, _, Eq.trans (World.drewN_drewN _ _ _) (congrArg (World.drewN _) (Nat.add_assoc _ _ _))⟩))); try go_wp2_with (first | (go_at_call 27; (with_reducible refine (cowrieref01_Name.calls k2 ((rd_T53 l0_0 x3_2).f0) true _ A22.out).mono ?_); rintro e w' ⟨rfl, ⟨nd, rfl⟩⟩; (try first | exact ⟨rfl, _, World.drewN_drewN _ _ _⟩ | exact ⟨rfl, _, Eq.trans (World.drewN_drewN _ _ _) (congrArg (World.drewN _) (Nat.add_assoc _ _ _))⟩)) | (go_at_call 28; (with_reducible refine (cowrieref20_text.calls k2 ((rd_T53 l0_0 x3_2).f1) t289 _ A24.out).mono ?_); rintro e w' ⟨rfl, ⟨nd, rfl⟩⟩; (try first | exact ⟨rfl, _, World.drewN_drewN _ _ _⟩ | exact ⟨rfl, _, Eq.trans (World.drewN_drewN _ _ _) (congrArg (World.drewN _) (Nat.add_assoc _ _ _))⟩))))
                      go_meet
                      case rel => (try rw [← Nbq31.out]); exact ⟨_, (true), (by first | rfl | (simp; done) | (simp [*]; done)), H', ⟨by have := HJ1.out; have := HK2.out; first | omega | exact Nat.le_refl _⟩, ⟨by (with_reducible repeat (first | refine blk_drewN ?_ _ | refine blk_drew ?_ | refine blk_alloc ?_ _)); refine blk_far ?_ NB284_287.out _; (with_reducible repeat (first | refine blk_drewN ?_ _ | refine blk_drew ?_ | refine blk_alloc ?_ _)); refine blk_far ?_ NB284_287.out _; (with_reducible repeat (first | refine blk_drewN ?_ _ | refine blk_drew ?_ | refine blk_alloc ?_ _)); refine blk_far ?_ NB284_287.out _; (with_reducible repeat (first | refine blk_drewN ?_ _ | refine blk_drew ?_ | refine blk_alloc ?_ _)); refine blk_far ?_ NB284_287.out _; (with_reducible repeat (first | refine blk_drewN ?_ _ | refine blk_drew ?_ | refine blk_alloc ?_ _)); exact BK284.out⟩, ⟨by (with_reducible repeat (first | refine blk_drewN ?_ _ | refine blk_drew ?_ | refine blk_alloc ?_ _)); refine blk_put (cs := #[.string ((rd_T53 l0_0 x3_2).f0), .string ((rd_T53 l0_0 x3_2).f1), .bool ((rd_T53 l0_0 x3_2).f2), .slice none 0 0]) ?_ 3 _ rfl; (with_reducible repeat (first | refine blk_drewN ?_ _ | refine blk_drew ?_ | refine blk_alloc ?_ _)); refine blk_put (cs := #[.string ((rd_T53 l0_0 x3_2).f0), .string ((rd_T53 l0_0 x3_2).f1), .bool false, .slice none 0 0]) ?_ 2 _ rfl; (with_reducible repeat (first | refine blk_drewN ?_ _ | refine blk_drew ?_ | refine blk_alloc ?_ _)); refine blk_put (cs := #[.string ((rd_T53 l0_0 x3_2).f0), .string (⟨#[]⟩ : ByteArray), .bool false, .slice none 0 0]) ?_ 1 _ rfl; (with_reducible repeat (first | refine blk_drewN ?_ _ | refine blk_drew ?_ | refine blk_alloc ?_ _)); refine blk_put (cs := #[.string (⟨#[]⟩ : ByteArray), .string (⟨#[]⟩ : ByteArray), .bool false, .slice none 0 0]) ?_ 0 _ rfl; (with_reducible repeat (first | refine blk_drewN ?_ _ | refine blk_drew ?_ | refine blk_alloc ?_ _)); exact BK287.out⟩, ⟨by repeat (first | (with_reducible first | exact HB.out | apply below_alloc | apply pw_below_drewN | apply below_drew1 | refine below_set ?_ GE284.out | refine below_set ?_ GE287.out) | exact HB.out)⟩⟩
                  · replace c23 := Bool.eq_false_iff.mpr c23
                    subst c23
                    have H1 : (cowrieref20_Check.j2 k2 x3_2 true l0_0 l0_1 a0_2 ((rd_T53 l0_0 x3_2).f0) ((rd_T53 l0_0 x3_2).f1) ((rd_T53 l0_0 x3_2).f2) ((rd_T53 l0_0 x3_2).f3)) = some r := by rw [if_neg (show ¬ (false = true) by decide)] at H; exact H
                    clear H
                    have H := H1
                    clear H1
                    have H' := Aside0.mk H
                    clear H
                    have hnb50 := NB287_284.out
                    have hnc50 := NB284_287.out
                    have hcz51_0 : w19.cell? ⟨gb287, 0, none⟩ = some (.string (⟨#[]⟩ : ByteArray)) := (blk_cell BK287.out 0).trans rfl
                    have hcz51_1 : w19.cell? ⟨gb287, 1, none⟩ = some (.string (⟨#[]⟩ : ByteArray)) := (blk_cell BK287.out 1).trans rfl
                    have hcz51_2 : w19.cell? ⟨gb287, 2, none⟩ = some (.bool false) := (blk_cell BK287.out 2).trans rfl
                    have hcz51_3 : w19.cell? ⟨gb287, 3, none⟩ = some (.slice none 0 0) := (blk_cell BK287.out 3).trans rfl
                    have hfz51_0 := blk_frozen BK287.out 0
                    have hfz51_1 := blk_frozen BK287.out 1
                    have hfz51_2 := blk_frozen BK287.out 2
                    have hfz51_3 := blk_frozen BK287.out 3
                    go_wp2_with (first | (go_at_call 27; (with_reducible refine (cowrieref01_Name.calls k2 ((rd_T53 l0_0 x3_2).f0) false _ A22.out).mono ?_); rintro e w' ⟨rfl, ⟨nd, rfl⟩⟩; (try first | exact ⟨rfl, _, World.drewN_drewN _ _ _⟩ | exact ⟨rfl, _, Eq.trans (World.drewN_drewN _ _ _) (congrArg (World.drewN _) (Nat.add_assoc _ _ _))⟩)))
                    repeat (go_quiet (first | (go_at_call 27; (with_reducible refine (cowrieref01_Name.calls k2 ((rd_T53 l0_0 x3_2).f0) false _ A22.out).mono ?_); rintro e w' ⟨rfl, ⟨nd, rfl⟩⟩; (try first | exact ⟨rfl, _, World.drewN_drewN _ _ _⟩ | exact ⟨rfl, _, Eq.trans (World.drewN_drewN _ _ _) (congrArg (World.drewN _) (Nat.add_assoc _ _ _))⟩))); try go_wp2_with (first | (go_at_call 27; (with_reducible refine (cowrieref01_Name.calls k2 ((rd_T53 l0_0 x3_2).f0) false _ A22.out).mono ?_); rintro e w' ⟨rfl, ⟨nd, rfl⟩⟩; (try first | exact ⟨rfl, _, World.drewN_drewN _ _ _⟩ | exact ⟨rfl, _, Eq.trans (World.drewN_drewN _ _ _) (congrArg (World.drewN _) (Nat.add_assoc _ _ _))⟩))))
                    go_meet
                    case rel => (try rw [← Nbq31.out]); exact ⟨_, (true), (by first | rfl | (simp; done) | (simp [*]; done)), H', ⟨by have := HJ1.out; have := HK2.out; first | omega | exact Nat.le_refl _⟩, ⟨by (with_reducible repeat (first | refine blk_drewN ?_ _ | refine blk_drew ?_ | refine blk_alloc ?_ _)); refine blk_far ?_ NB284_287.out _; (with_reducible repeat (first | refine blk_drewN ?_ _ | refine blk_drew ?_ | refine blk_alloc ?_ _)); refine blk_far ?_ NB284_287.out _; (with_reducible repeat (first | refine blk_drewN ?_ _ | refine blk_drew ?_ | refine blk_alloc ?_ _)); refine blk_far ?_ NB284_287.out _; (with_reducible repeat (first | refine blk_drewN ?_ _ | refine blk_drew ?_ | refine blk_alloc ?_ _)); refine blk_far ?_ NB284_287.out _; (with_reducible repeat (first | refine blk_drewN ?_ _ | refine blk_drew ?_ | refine blk_alloc ?_ _)); exact BK284.out⟩, ⟨by (with_reducible repeat (first | refine blk_drewN ?_ _ | refine blk_drew ?_ | refine blk_alloc ?_ _)); refine blk_put (cs := #[.string ((rd_T53 l0_0 x3_2).f0), .string ((rd_T53 l0_0 x3_2).f1), .bool ((rd_T53 l0_0 x3_2).f2), .slice none 0 0]) ?_ 3 _ rfl; (with_reducible repeat (first | refine blk_drewN ?_ _ | refine blk_drew ?_ | refine blk_alloc ?_ _)); refine blk_put (cs := #[.string ((rd_T53 l0_0 x3_2).f0), .string ((rd_T53 l0_0 x3_2).f1), .bool false, .slice none 0 0]) ?_ 2 _ rfl; (with_reducible repeat (first | refine blk_drewN ?_ _ | refine blk_drew ?_ | refine blk_alloc ?_ _)); refine blk_put (cs := #[.string ((rd_T53 l0_0 x3_2).f0), .string (⟨#[]⟩ : ByteArray), .bool false, .slice none 0 0]) ?_ 1 _ rfl; (with_reducible repeat (first | refine blk_drewN ?_ _ | refine blk_drew ?_ | refine blk_alloc ?_ _)); refine blk_put (cs := #[.string (⟨#[]⟩ : ByteArray), .string (⟨#[]⟩ : ByteArray), .bool false, .slice none 0 0]) ?_ 0 _ rfl; (with_reducible repeat (first | refine blk_drewN ?_ _ | refine blk_drew ?_ | refine blk_alloc ?_ _)); exact BK287.out⟩, ⟨by repeat (first | (with_reducible first | exact HB.out | apply below_alloc | apply pw_below_drewN | apply below_drew1 | refine below_set ?_ GE284.out | refine below_set ?_ GE287.out) | exact HB.out)⟩⟩
                case rest =>
                  clear HC17
                  try clear c1
                  try clear c2
                  try clear p2
                  try clear q2
                  try clear hx2
                  try clear c3
                  try clear q3
                  try clear c4
                  try clear c4b0
                  try clear c4b1
                  try clear c5
                  try clear c6
                  try clear c6b0
                  try clear c6b1
                  try clear c9
                  try clear c9b0
                  try clear c9b1
                  try clear c10
                  try clear c10b0
                  try clear c13
                  try clear c14
                  try clear c15
                  try clear c15b0
                  try clear c16
                  try clear c16b0
                  try clear c20
                  try clear c23
                  try clear c25
                  try clear c25b0
                  try clear c25b1
                  try clear c27
                  try clear c27b0
                  try clear c27b1
                  try clear c28
                  try clear c28b0
                  try clear c28b1
                  try clear p28
                  try clear q28
                  try clear hx28
                  try clear c29
                  try clear q31
                  try clear c32
                  try clear c33
                  try clear c33b0
                  try clear c33b1
                  try clear c34
                  try clear c35
                  try clear c37
                  try clear c39
                  try clear c41
                  try clear c42
                  try clear c44
                  try clear c46
                  try clear c48
                  try clear c50
                  try clear hcz11_0
                  try clear hcz11_1
                  try clear hcz11_2
                  try clear hcz12_0
                  try clear hcz12_1
                  try clear hcz12_2
                  try clear hcz13_0
                  try clear hcz13_1
                  try clear hcz13_2
                  try clear hcz18_0
                  try clear hcz18_1
                  try clear hcz18_2
                  try clear hcz21_0
                  try clear hcz21_1
                  try clear hcz21_2
                  try clear hcz21_3
                  try clear hcz30_0
                  try clear hcz30_1
                  try clear hcz30_2
                  try clear hcz30_3
                  try clear hcz36_0
                  try clear hcz36_1
                  try clear hcz36_2
                  try clear hcz36_3
                  try clear hcz38_0
                  try clear hcz38_1
                  try clear hcz38_2
                  try clear hcz38_3
                  try clear hcz40_0
                  try clear hcz40_1
                  try clear hcz40_2
                  try clear hcz40_3
                  try clear hcz43_0
                  try clear hcz43_1
                  try clear hcz43_2
                  try clear hcz43_3
                  try clear hcz45_0
                  try clear hcz45_1
                  try clear hcz45_2
                  try clear hcz45_3
                  try clear hcz47_0
                  try clear hcz47_1
                  try clear hcz47_2
                  try clear hcz47_3
                  try clear hcz49_0
                  try clear hcz49_1
                  try clear hcz49_2
                  try clear hcz49_3
                  try clear hcz51_0
                  try clear hcz51_1
                  try clear hcz51_2
                  try clear hcz51_3
                  try clear hcz5_0
                  try clear hcz5_1
                  try clear hcz5_2
                  try clear hcz7_0
                  try clear hcz7_1
                  try clear hcz7_2
                  try clear hfz11_0
                  try clear hfz11_1
                  try clear hfz11_2
                  try clear hfz12_0
                  try clear hfz12_1
                  try clear hfz12_2
                  try clear hfz13_0
                  try clear hfz13_1
                  try clear hfz13_2
                  try clear hfz18_0
                  try clear hfz18_1
                  try clear hfz18_2
                  try clear hfz21_0
                  try clear hfz21_1
                  try clear hfz21_2
                  try clear hfz21_3
                  try clear hfz30_0
                  try clear hfz30_1
                  try clear hfz30_2
                  try clear hfz30_3
                  try clear hfz36_0
                  try clear hfz36_1
                  try clear hfz36_2
                  try clear hfz36_3
                  try clear hfz38_0
                  try clear hfz38_1
                  try clear hfz38_2
                  try clear hfz38_3
                  try clear hfz40_0
                  try clear hfz40_1
                  try clear hfz40_2
                  try clear hfz40_3
                  try clear hfz43_0
                  try clear hfz43_1
                  try clear hfz43_2
                  try clear hfz43_3
                  try clear hfz45_0
                  try clear hfz45_1
                  try clear hfz45_2
                  try clear hfz45_3
                  try clear hfz47_0
                  try clear hfz47_1
                  try clear hfz47_2
                  try clear hfz47_3
                  try clear hfz49_0
                  try clear hfz49_1
                  try clear hfz49_2
                  try clear hfz49_3
                  try clear hfz51_0
                  try clear hfz51_1
                  try clear hfz51_2
                  try clear hfz51_3
                  try clear hfz5_0
                  try clear hfz5_1
                  try clear hfz5_2
                  try clear hfz7_0
                  try clear hfz7_1
                  try clear hfz7_2
                  try clear hx286_0
                  try clear hx286_1
                  try clear hx286_2
                  try clear hx286_3
                  try clear p2
                  try clear p286
                  try clear q286
                  obtain ⟨kq, x85_16, rfl, HA, HJ16, BK284, BK287, HB⟩ := hcut
                  cases kq with
                  | zero => exact absurd HA.out (by simp [cowrieref20_Check.j2])
                  | succ kj16 =>
                    have H := HA.out
                    clear HA
                    simp only [cowrieref20_Check.j2] at H
                    by_cases c52 : x85_16 = true
                    · subst c52
                      have H1 : (some 9) = some r := by rw [if_pos rfl] at H; exact H
                      clear H
                      have H := H1
                      clear H1
                      obtain rfl := Option.some.inj H
                      go_wp2
                      repeat (go_quiet (fail); try go_wp2)
                      go_ret
                      exact ⟨by first | rfl | (simp [errW_none, errW_some] <;> rfl) | (simp [*, errW_none, errW_some] <;> rfl), by repeat (first | (with_reducible first | exact HB.out | apply below_alloc | apply pw_below_drewN | apply below_drew1 | refine below_set ?_ GE284.out | refine below_set ?_ GE287.out) | exact HB.out)⟩
                    · replace c52 := Bool.eq_false_iff.mpr c52
                      subst c52
                      have H1 : (cowrieref20_Check.l1 kj16 x3_2 0 l0_0 l0_1 a0_2 ((rd_T53 l0_0 x3_2).f0) ((rd_T53 l0_0 x3_2).f1) ((rd_T53 l0_0 x3_2).f2) ((rd_T53 l0_0 x3_2).f3)) = some r := by rw [if_neg (show ¬ (false = true) by decide)] at H; exact H
                      clear H
                      have H := H1
                      clear H1
                      have H' := Aside0.mk H
                      clear H
                      go_wp2
                      repeat (go_quiet (fail); try go_wp2)
                      go_loopg [5] kj16 (fun kq v5 w' => ∃ (x5_4 : Int), v5 = .int .i64 x5_4 ∧ Aside0 (cowrieref20_Check.l1 kq x3_2 x5_4 l0_0 l0_1 a0_2 ((rd_T53 l0_0 x3_2).f0) ((rd_T53 l0_0 x3_2).f1) ((rd_T53 l0_0 x3_2).f2) ((rd_T53 l0_0 x3_2).f3) = some r) ∧ Aside0 (kq ≤ kj16) ∧ Aside0 (w'.heap[gb284]? = some (.cells #[(.slice (some ad286) l0_0.length c0_0), (.slice A0_1 l0_1.length c0_1), .int .i64 a0_2] 25 (0, 0))) ∧ Aside0 (w'.heap[gb287]? = some (.cells #[.string ((rd_T53 l0_0 x3_2).f0), .string ((rd_T53 l0_0 x3_2).f1), .bool ((rd_T53 l0_0 x3_2).f2), (.slice A286_3 ((rd_T53 l0_0 x3_2).f3).length c286_3)] 53 (0, 0))) ∧ Aside0 (Below w.heap.size w w'))
                      case atStart => exact ⟨(0), (by first | rfl | (simp; done) | (simp [*]; done)), H', ⟨Nat.le_refl _⟩, ⟨by (with_reducible repeat (first | refine blk_drewN ?_ _ | refine blk_drew ?_ | refine blk_alloc ?_ _)); exact BK284.out⟩, ⟨by (with_reducible repeat (first | refine blk_drewN ?_ _ | refine blk_drew ?_ | refine blk_alloc ?_ _)); exact BK287.out⟩, ⟨by repeat (first | (with_reducible first | exact HB.out | apply below_alloc | apply pw_below_drewN | apply below_drew1 | refine below_set ?_ GE284.out | refine below_set ?_ GE287.out) | exact HB.out)⟩⟩
                      case round =>
                        clear H'
                        try clear c1
                        try clear c2
                        try clear p2
                        try clear q2
                        try clear hx2
                        try clear c3
                        try clear q3
                        try clear c4
                        try clear c4b0
                        try clear c4b1
                        try clear c5
                        try clear c6
                        try clear c6b0
                        try clear c6b1
                        try clear c9
                        try clear c9b0
                        try clear c9b1
                        try clear c10
                        try clear c10b0
                        try clear c13
                        try clear c14
                        try clear c15
                        try clear c15b0
                        try clear c16
                        try clear c16b0
                        try clear c20
                        try clear c23
                        try clear c25
                        try clear c25b0
                        try clear c25b1
                        try clear c27
                        try clear c27b0
                        try clear c27b1
                        try clear c28
                        try clear c28b0
                        try clear c28b1
                        try clear p28
                        try clear q28
                        try clear hx28
                        try clear c29
                        try clear q31
                        try clear c32
                        try clear c33
                        try clear c33b0
                        try clear c33b1
                        try clear c34
                        try clear c35
                        try clear c37
                        try clear c39
                        try clear c41
                        try clear c42
                        try clear c44
                        try clear c46
                        try clear c48
                        try clear c50
                        try clear c52
                        try clear hcz11_0
                        try clear hcz11_1
                        try clear hcz11_2
                        try clear hcz12_0
                        try clear hcz12_1
                        try clear hcz12_2
                        try clear hcz13_0
                        try clear hcz13_1
                        try clear hcz13_2
                        try clear hcz18_0
                        try clear hcz18_1
                        try clear hcz18_2
                        try clear hcz21_0
                        try clear hcz21_1
                        try clear hcz21_2
                        try clear hcz21_3
                        try clear hcz30_0
                        try clear hcz30_1
                        try clear hcz30_2
                        try clear hcz30_3
                        try clear hcz36_0
                        try clear hcz36_1
                        try clear hcz36_2
                        try clear hcz36_3
                        try clear hcz38_0
                        try clear hcz38_1
                        try clear hcz38_2
                        try clear hcz38_3
                        try clear hcz40_0
                        try clear hcz40_1
                        try clear hcz40_2
                        try clear hcz40_3
                        try clear hcz43_0
                        try clear hcz43_1
                        try clear hcz43_2
                        try clear hcz43_3
                        try clear hcz45_0
                        try clear hcz45_1
                        try clear hcz45_2
                        try clear hcz45_3
                        try clear hcz47_0
                        try clear hcz47_1
                        try clear hcz47_2
                        try clear hcz47_3
                        try clear hcz49_0
                        try clear hcz49_1
                        try clear hcz49_2
                        try clear hcz49_3
                        try clear hcz51_0
                        try clear hcz51_1
                        try clear hcz51_2
                        try clear hcz51_3
                        try clear hcz5_0
                        try clear hcz5_1
                        try clear hcz5_2
                        try clear hcz7_0
                        try clear hcz7_1
                        try clear hcz7_2
                        try clear hfz11_0
                        try clear hfz11_1
                        try clear hfz11_2
                        try clear hfz12_0
                        try clear hfz12_1
                        try clear hfz12_2
                        try clear hfz13_0
                        try clear hfz13_1
                        try clear hfz13_2
                        try clear hfz18_0
                        try clear hfz18_1
                        try clear hfz18_2
                        try clear hfz21_0
                        try clear hfz21_1
                        try clear hfz21_2
                        try clear hfz21_3
                        try clear hfz30_0
                        try clear hfz30_1
                        try clear hfz30_2
                        try clear hfz30_3
                        try clear hfz36_0
                        try clear hfz36_1
                        try clear hfz36_2
                        try clear hfz36_3
                        try clear hfz38_0
                        try clear hfz38_1
                        try clear hfz38_2
                        try clear hfz38_3
                        try clear hfz40_0
                        try clear hfz40_1
                        try clear hfz40_2
                        try clear hfz40_3
                        try clear hfz43_0
                        try clear hfz43_1
                        try clear hfz43_2
                        try clear hfz43_3
                        try clear hfz45_0
                        try clear hfz45_1
                        try clear hfz45_2
                        try clear hfz45_3
                        try clear hfz47_0
                        try clear hfz47_1
                        try clear hfz47_2
                        try clear hfz47_3
                        try clear hfz49_0
                        try clear hfz49_1
                        try clear hfz49_2
                        try clear hfz49_3
                        try clear hfz51_0
                        try clear hfz51_1
                        try clear hfz51_2
                        try clear hfz51_3
                        try clear hfz5_0
                        try clear hfz5_1
                        try clear hfz5_2
                        try clear hfz7_0
                        try clear hfz7_1
                        try clear hfz7_2
                        try clear hx286_0
                        try clear hx286_1
                        try clear hx286_2
                        try clear hx286_3
                        try clear p2
                        try clear p28
                        try clear p286
                        try clear q2
                        try clear q28
                        try clear q286
                        try clear q3
                        try clear q31
                        obtain ⟨x5_4, rfl, HA, HK4, BK284, BK287, HB⟩ := hrel
                        cases gk with
                        | zero => exact absurd HA.out (by simp [cowrieref20_Check.l1])
                        | succ k4 =>
                          have H := HA.out
                          clear HA
                          simp only [cowrieref20_Check.l1] at H
                          by_cases c53 : x5_4 < x3_2
                          · rw [if_pos c53] at H
                            have c53b0 : decide (x5_4 < x3_2) = true := decide_eq_true c53
                            clear c53
                            by_cases c54 : 0 ≤ x5_4
                            · rw [if_pos c54] at H
                              have c54b0 : decide (0 ≤ x5_4) = true := decide_eq_true c54
                              clear c54
                              by_cases c55 : x5_4 < (l0_0.length : Int)
                              · rw [if_pos c55] at H
                                have c55b0 : decide (x5_4 < (l0_0.length : Int)) = true := decide_eq_true c55
                                clear c55
                                by_cases c56 : ((rd_T53 l0_0 x5_4).f0).toList = ((rd_T53 l0_0 x3_2).f0).toList
                                · rw [if_pos c56] at H
                                  have c56b0 : (((rd_T53 l0_0 x5_4).f0).toList == ((rd_T53 l0_0 x3_2).f0).toList) = true := beq_iff_eq.mpr c56
                                  have c56b1 : (((rd_T53 l0_0 x5_4).f0).toList != ((rd_T53 l0_0 x3_2).f0).toList) = false := bne_eq_false_iff_eq.mpr c56
                                  clear c56
                                  obtain rfl := Option.some.inj H
                                  have hnb57 := NB284_287.out
                                  have hnc57 := NB287_284.out
                                  have hcz58_0 : wr.cell? ⟨gb284, 0, none⟩ = some (.slice (some ad286) l0_0.length c0_0) := (blk_cell BK284.out 0).trans rfl
                                  have hcz58_1 : wr.cell? ⟨gb284, 1, none⟩ = some (.slice A0_1 l0_1.length c0_1) := (blk_cell BK284.out 1).trans rfl
                                  have hcz58_2 : wr.cell? ⟨gb284, 2, none⟩ = some (.int .i64 a0_2) := (blk_cell BK284.out 2).trans rfl
                                  have hfz58_0 := blk_frozen BK284.out 0
                                  have hfz58_1 := blk_frozen BK284.out 1
                                  have hfz58_2 := blk_frozen BK284.out 2
                                  have p291 : 0 ≤ (x5_4 : Int) := of_decide_eq_true (by first | (with_reducible assumption) | assumption)
                                  have q291 : x5_4 < (l0_0.length : Int) := of_decide_eq_true (by first | (with_reducible assumption) | assumption)
                                  obtain ⟨ad291, A291_3, c291_3, e291, hx291_0, hx291_1, hx291_2, hx291_3, hl291_3, hi291_3⟩ := at_T53 HR0_0.out x5_4 p291 q291
                                  obtain rfl : ad286 = ad291 := (by injection e291)
                                  replace hx291_0 := (HB.out.cell (World.block_lt_of_cell? w _ hx291_0)).trans hx291_0
                                  replace hx291_1 := (HB.out.cell (World.block_lt_of_cell? w _ hx291_1)).trans hx291_1
                                  replace hx291_2 := (HB.out.cell (World.block_lt_of_cell? w _ hx291_2)).trans hx291_2
                                  replace hx291_3 := (HB.out.cell (World.block_lt_of_cell? w _ hx291_3)).trans hx291_3
                                  have HR291_3 := Aside0.mk hi291_3
                                  have HC291_3 := Aside0.mk hl291_3
                                  clear hi291_3 hl291_3
                                  replace p291 := eq_true p291
                                  replace q291 := eq_true q291
                                  have hcz59_0 : wr.cell? ⟨gb287, 0, none⟩ = some (.string ((rd_T53 l0_0 x3_2).f0)) := (blk_cell BK287.out 0).trans rfl
                                  have hcz59_1 : wr.cell? ⟨gb287, 1, none⟩ = some (.string ((rd_T53 l0_0 x3_2).f1)) := (blk_cell BK287.out 1).trans rfl
                                  have hcz59_2 : wr.cell? ⟨gb287, 2, none⟩ = some (.bool ((rd_T53 l0_0 x3_2).f2)) := (blk_cell BK287.out 2).trans rfl
                                  have hcz59_3 : wr.cell? ⟨gb287, 3, none⟩ = some (.slice A286_3 ((rd_T53 l0_0 x3_2).f3).length c286_3) := (blk_cell BK287.out 3).trans rfl
                                  have hfz59_0 := blk_frozen BK287.out 0
                                  have hfz59_1 := blk_frozen BK287.out 1
                                  have hfz59_2 := blk_frozen BK287.out 2
                                  have hfz59_3 := blk_frozen BK287.out 3
                                  go_wp2
                                  repeat (go_quiet (fail); try go_wp2)
                                  go_ret
                                  exact ⟨by first | rfl | (simp [errW_none, errW_some] <;> rfl) | (simp [*, errW_none, errW_some] <;> rfl), by repeat (first | (with_reducible first | exact HB.out | apply below_alloc | apply pw_below_drewN | apply below_drew1 | refine below_set ?_ GE284.out | refine below_set ?_ GE287.out) | exact HB.out)⟩
                                · rw [if_neg c56] at H
                                  have c56b0 : (((rd_T53 l0_0 x5_4).f0).toList == ((rd_T53 l0_0 x3_2).f0).toList) = false := beq_eq_false_iff_ne.mpr c56
                                  have c56b1 : (((rd_T53 l0_0 x5_4).f0).toList != ((rd_T53 l0_0 x3_2).f0).toList) = true := bne_iff_ne.mpr c56
                                  have H' := Aside0.mk H
                                  clear H
                                  have hnb60 := NB284_287.out
                                  have hnc60 := NB287_284.out
                                  have hcz61_0 : wr.cell? ⟨gb284, 0, none⟩ = some (.slice (some ad286) l0_0.length c0_0) := (blk_cell BK284.out 0).trans rfl
                                  have hcz61_1 : wr.cell? ⟨gb284, 1, none⟩ = some (.slice A0_1 l0_1.length c0_1) := (blk_cell BK284.out 1).trans rfl
                                  have hcz61_2 : wr.cell? ⟨gb284, 2, none⟩ = some (.int .i64 a0_2) := (blk_cell BK284.out 2).trans rfl
                                  have hfz61_0 := blk_frozen BK284.out 0
                                  have hfz61_1 := blk_frozen BK284.out 1
                                  have hfz61_2 := blk_frozen BK284.out 2
                                  have p291 : 0 ≤ (x5_4 : Int) := of_decide_eq_true (by first | (with_reducible assumption) | assumption)
                                  have q291 : x5_4 < (l0_0.length : Int) := of_decide_eq_true (by first | (with_reducible assumption) | assumption)
                                  obtain ⟨ad291, A291_3, c291_3, e291, hx291_0, hx291_1, hx291_2, hx291_3, hl291_3, hi291_3⟩ := at_T53 HR0_0.out x5_4 p291 q291
                                  obtain rfl : ad286 = ad291 := (by injection e291)
                                  replace hx291_0 := (HB.out.cell (World.block_lt_of_cell? w _ hx291_0)).trans hx291_0
                                  replace hx291_1 := (HB.out.cell (World.block_lt_of_cell? w _ hx291_1)).trans hx291_1
                                  replace hx291_2 := (HB.out.cell (World.block_lt_of_cell? w _ hx291_2)).trans hx291_2
                                  replace hx291_3 := (HB.out.cell (World.block_lt_of_cell? w _ hx291_3)).trans hx291_3
                                  have HR291_3 := Aside0.mk hi291_3
                                  have HC291_3 := Aside0.mk hl291_3
                                  clear hi291_3 hl291_3
                                  replace p291 := eq_true p291
                                  replace q291 := eq_true q291
                                  have hcz62_0 : wr.cell? ⟨gb287, 0, none⟩ = some (.string ((rd_T53 l0_0 x3_2).f0)) := (blk_cell BK287.out 0).trans rfl
                                  have hcz62_1 : wr.cell? ⟨gb287, 1, none⟩ = some (.string ((rd_T53 l0_0 x3_2).f1)) := (blk_cell BK287.out 1).trans rfl
                                  have hcz62_2 : wr.cell? ⟨gb287, 2, none⟩ = some (.bool ((rd_T53 l0_0 x3_2).f2)) := (blk_cell BK287.out 2).trans rfl
                                  have hcz62_3 : wr.cell? ⟨gb287, 3, none⟩ = some (.slice A286_3 ((rd_T53 l0_0 x3_2).f3).length c286_3) := (blk_cell BK287.out 3).trans rfl
                                  have hfz62_0 := blk_frozen BK287.out 0
                                  have hfz62_1 := blk_frozen BK287.out 1
                                  have hfz62_2 := blk_frozen BK287.out 2
                                  have hfz62_3 := blk_frozen BK287.out 3
                                  go_wp2
                                  repeat (go_quiet (fail); try go_wp2)
                                  go_roundg k4
                                  case measure => have := HJ1.out; have := HK2.out; have := HJ16.out; have := HK4.out; omega
                                  case rel => (try rw [← Nbq31.out]); exact ⟨(wrap64 (x5_4 + 1)), (by first | rfl | (simp; done) | (simp [*]; done)), H', ⟨by have := HJ1.out; have := HK2.out; have := HJ16.out; have := HK4.out; omega⟩, ⟨by (with_reducible repeat (first | refine blk_drewN ?_ _ | refine blk_drew ?_ | refine blk_alloc ?_ _)); exact BK284.out⟩, ⟨by (with_reducible repeat (first | refine blk_drewN ?_ _ | refine blk_drew ?_ | refine blk_alloc ?_ _)); exact BK287.out⟩, ⟨by repeat (first | (with_reducible first | exact HB.out | apply below_alloc | apply pw_below_drewN | apply below_drew1 | refine below_set ?_ GE284.out | refine below_set ?_ GE287.out) | exact HB.out)⟩⟩
                              · rw [if_neg c55] at H
                                exact absurd H (by simp)
                            · rw [if_neg c54] at H
                              exact absurd H (by simp)
                          · rw [if_neg c53] at H
                            have c53b0 : decide (x5_4 < x3_2) = false := decide_eq_false c53
                            clear c53
                            have H' := Aside0.mk H
                            clear H
                            go_wp2
                            repeat (go_quiet (fail); try go_wp2)
                            go_roundg k4
                            case measure => have := HJ1.out; have := HK2.out; have := HJ16.out; have := HK4.out; omega
                            case rel => (try rw [← Nbq31.out]); exact ⟨(wrap64 (x3_2 + 1)), (by first | rfl | (simp; done) | (simp [*]; done)), H', ⟨by have := HJ1.out; have := HK2.out; have := HJ16.out; have := HK4.out; omega⟩, ⟨by (with_reducible repeat (first | refine blk_drewN ?_ _ | refine blk_drew ?_ | refine blk_alloc ?_ _)); exact BK284.out⟩, ⟨by repeat (first | (with_reducible first | exact HB.out | apply below_alloc | apply pw_below_drewN | apply below_drew1 | refine below_set ?_ GE284.out | refine below_set ?_ GE287.out) | exact HB.out)⟩⟩
              · rw [if_neg c16] at H
                exact absurd H (by simp)
            · rw [if_neg c15] at H
              have c15b0 : decide (x3_2 < (l0_0.length : Int)) = false := decide_eq_false c15
              clear c15
              obtain rfl := Option.some.inj H
              have hcz63_0 : wr.cell? ⟨gb284, 0, none⟩ = some (.slice A0_0 l0_0.length c0_0) := (blk_cell BK284.out 0).trans rfl
              have hcz63_1 : wr.cell? ⟨gb284, 1, none⟩ = some (.slice A0_1 l0_1.length c0_1) := (blk_cell BK284.out 1).trans rfl
              have hcz63_2 : wr.cell? ⟨gb284, 2, none⟩ = some (.int .i64 a0_2) := (blk_cell BK284.out 2).trans rfl
              have hfz63_0 := blk_frozen BK284.out 0
              have hfz63_1 := blk_frozen BK284.out 1
              have hfz63_2 := blk_frozen BK284.out 2
              go_wp2
              repeat (go_quiet (fail); try go_wp2)
              go_ret
              exact ⟨by first | rfl | (simp [errW_none, errW_some] <;> rfl) | (simp [*, errW_none, errW_some] <;> rfl), by repeat (first | (with_reducible first | exact HB.out | apply below_alloc | apply pw_below_drewN | apply below_drew1 | refine below_set ?_ GE284.out) | exact HB.out)⟩

end Go.Proofs.YtpljochiegallaaDoor.XVars
