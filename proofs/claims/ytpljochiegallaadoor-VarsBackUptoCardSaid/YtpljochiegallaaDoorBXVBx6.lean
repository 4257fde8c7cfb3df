-- WRITTEN BY xprint.py, a program of this session (over the kit's print)
import Derived.Test.YtpljochiegallaaDoorBXVBx0
import Derived.Test.YtpljochiegallaaDoorBXVBx5
namespace Go.Proofs.YtpljochiegallaaDoor.XVB
open Go.RowKit Go.Proofs.YtpljochiegallaaDoorW.PrintWords Go.Proofs.YtpljochiegallaaDoorW.PrintLast Go.Proofs.YtpljochiegallaaDoorW.PrintMore
attribute [local go_sem] max2_int min2_int max_two min_two max_three min_three max_four min_four   -- for this text's walks alone
set_option linter.unusedVariables false
set_option linter.unusedSimpArgs false

/-! ### cowrieref20_Check: function 13 -/
mutual
def cowrieref20_Check.j0 : Nat → Bool → List (S53) → List ByteArray → Int → Option (Int)
  | 0, _, _, _, _ => none
  | k + 1, x31, x220000, x220001, x220002 => if x31 = true then (some 9) else (cowrieref20_Check.l0 k 0 x220000 x220001 x220002)
def cowrieref20_Check.l0 : Nat → Int → List (S53) → List ByteArray → Int → Option (Int)
  | 0, _, _, _, _ => none
  | k + 1, x3, x220000, x220001, x220002 => if x3 < (x220000.length : Int) then (if 0 ≤ x3 then ((cowrieref01_Name.f k ((rd_T53 x220000 x3).f0)).bind fun t223 => (if t223 = true then ((cowrieref20_text.f k ((rd_T53 x220000 x3).f1)).bind fun t224 => (if t224 = 0 then ((cowrieref20_texts.f k ((rd_T53 x220000 x3).f3)).bind fun t225 => (if t225 = 0 then (if (((rd_T53 x220000 x3).f3).length : Int) > 1024 then (cowrieref20_Check.j2 k x3 true x220000 x220001 x220002 ((rd_T53 x220000 x3).f0) ((rd_T53 x220000 x3).f1) ((rd_T53 x220000 x3).f2) ((rd_T53 x220000 x3).f3)) else (if (rd_T53 x220000 x3).f2 = true then (if ((rd_T53 x220000 x3).f1).toList = ([] : List UInt8) then (if ((rd_T53 x220000 x3).f2 = true) then (cowrieref20_Check.j2 k x3 false x220000 x220001 x220002 ((rd_T53 x220000 x3).f0) ((rd_T53 x220000 x3).f1) ((rd_T53 x220000 x3).f2) ((rd_T53 x220000 x3).f3)) else (cowrieref20_Check.j2 k x3 (decide ((((rd_T53 x220000 x3).f3).length : Int) > 0)) x220000 x220001 x220002 ((rd_T53 x220000 x3).f0) ((rd_T53 x220000 x3).f1) ((rd_T53 x220000 x3).f2) ((rd_T53 x220000 x3).f3))) else (cowrieref20_Check.j2 k x3 true x220000 x220001 x220002 ((rd_T53 x220000 x3).f0) ((rd_T53 x220000 x3).f1) ((rd_T53 x220000 x3).f2) ((rd_T53 x220000 x3).f3))) else (if ((rd_T53 x220000 x3).f2 = true) then (cowrieref20_Check.j2 k x3 false x220000 x220001 x220002 ((rd_T53 x220000 x3).f0) ((rd_T53 x220000 x3).f1) ((rd_T53 x220000 x3).f2) ((rd_T53 x220000 x3).f3)) else (cowrieref20_Check.j2 k x3 (decide ((((rd_T53 x220000 x3).f3).length : Int) > 0)) x220000 x220001 x220002 ((rd_T53 x220000 x3).f0) ((rd_T53 x220000 x3).f1) ((rd_T53 x220000 x3).f2) ((rd_T53 x220000 x3).f3))))) else (cowrieref20_Check.j2 k x3 true x220000 x220001 x220002 ((rd_T53 x220000 x3).f0) ((rd_T53 x220000 x3).f1) ((rd_T53 x220000 x3).f2) ((rd_T53 x220000 x3).f3)))) else (cowrieref20_Check.j2 k x3 true x220000 x220001 x220002 ((rd_T53 x220000 x3).f0) ((rd_T53 x220000 x3).f1) ((rd_T53 x220000 x3).f2) ((rd_T53 x220000 x3).f3)))) else (cowrieref20_Check.j2 k x3 true x220000 x220001 x220002 ((rd_T53 x220000 x3).f0) ((rd_T53 x220000 x3).f1) ((rd_T53 x220000 x3).f2) ((rd_T53 x220000 x3).f3)))) else (none)) else (some 0)
def cowrieref20_Check.j2 : Nat → Int → Bool → List (S53) → List ByteArray → Int → ByteArray → ByteArray → Bool → List ByteArray → Option (Int)
  | 0, _, _, _, _, _, _, _, _, _ => none
  | k + 1, x3, x85, x220000, x220001, x220002, x223000, x223001, x223002, x223003 => if x85 = true then (some 9) else (cowrieref20_Check.l1 k x3 0 x220000 x220001 x220002 x223000 x223001 x223002 x223003)
def cowrieref20_Check.l1 : Nat → Int → Int → List (S53) → List ByteArray → Int → ByteArray → ByteArray → Bool → List ByteArray → Option (Int)
  | 0, _, _, _, _, _, _, _, _, _ => none
  | k + 1, x3, x5, x220000, x220001, x220002, x223000, x223001, x223002, x223003 => if x5 < x3 then (if 0 ≤ x5 then (if x5 < (x220000.length : Int) then (if ((rd_T53 x220000 x5).f0).toList = x223000.toList then (some 9) else (cowrieref20_Check.l1 k x3 (wrap64 (x5 + 1)) x220000 x220001 x220002 x223000 x223001 x223002 x223003)) else (none)) else (none)) else (cowrieref20_Check.l0 k (wrap64 (x3 + 1)) x220000 x220001 x220002)
end
def cowrieref20_Check.f (k : Nat) (l0_0 : List (S53)) (l0_1 : List ByteArray) (a0_2 : Int) : Option (Int) := if (l0_0.length : Int) > 1024 then (cowrieref20_Check.j0 k true l0_0 l0_1 a0_2) else (if (l0_1.length : Int) > 1024 then (cowrieref20_Check.j0 k true l0_0 l0_1 a0_2) else ((cowrieref20_texts.f k l0_1).bind fun t220 => (if t220 = 0 then (if a0_2 < 0 then (cowrieref20_Check.j0 k true l0_0 l0_1 a0_2) else (cowrieref20_Check.j0 k (decide (a0_2 > 255)) l0_0 l0_1 a0_2)) else (cowrieref20_Check.j0 k true l0_0 l0_1 a0_2))))
set_option maxHeartbeats 8000000 in
set_option maxRecDepth 100000 in
theorem cowrieref20_Check.calls (k : Nat) (bX : Option Addr) (bQ : Nat) (bz : List (S53)) (bR : Option Addr) (bS : Nat) (bE : List ByteArray) (bG : Int) (r : Int) (w : World) (hr0_0 : Kd.C k53 w bX bz.length bz) (hc0_0 : bz.length ≤ bQ) (hr0_1 : Kd.C Kd.string w bR bE.length bE) (hc0_1 : bE.length ≤ bS) (h : cowrieref20_Check.f k bz bE bG = some r) :
  Calls Tryd.prog 13 #[.agg #[.slice bX bz.length bQ, .slice bR bE.length bS, .int .i64 bG]] w fun e w' => e = .returned (.int .i64 r) ∧ Below w.heap.size w w' := by
 have hu25 := Tryd.underlying25
 have hu53 := Tryd.underlying53
 have HR0_0 := bu hr0_0
 have HC0_0 := bu hc0_0
 clear hr0_0 hc0_0
 have bY := bu hr0_1
 have bZ := bu hc0_1
 clear hr0_1 hc0_1
 have HB := bu (bw w.heap.size w)
 have H : (if (bz.length : Int) > 1024 then (cowrieref20_Check.j0 k true bz bE bG) else (if (bE.length : Int) > 1024 then (cowrieref20_Check.j0 k true bz bE bG) else ((cowrieref20_texts.f k bE).bind fun bW => (if bW = 0 then (if bG < 0 then (cowrieref20_Check.j0 k true bz bE bG) else (cowrieref20_Check.j0 k (decide (bG > 255)) bz bE bG)) else (cowrieref20_Check.j0 k true bz bE bG))))) = some r := h
 clear h
 have HC2 := bu H
 clear H
 go_enter Tryd.func13, Tryd.ntmps13
 go_upto_region 1 with (first | ((with_reducible refine gate_dst (N := 1) rfl ?_); (try (refine gate_guard (by rfl) ?_; dsimp only)); refine box_event ?hg (N := 1) ?hd (cs := #[.slice bX bz.length bQ, .slice bR bE.length bS, .int .i64 bG]) (t := 25) ?hr ?_; (case hd => rfl); (case hg => rfl); (case hr => first | (go_simp; done) | (go_simp; rfl)); intro bH hg w3 hbox hb; have n0_ := bu (below_step (by repeat (first | (with_reducible first | exact HB.out | apply bm | apply bj | apply bn) | exact HB.out)) hb); have n1_ := bu (hbox); have n2_ := bu ((by rw [hg]; exact (bs (by repeat (first | (with_reducible first | exact HB.out | apply bm | apply bj | apply bn) | exact HB.out))) : w.heap.size ≤ bH)); have n3_ := bu ((by rw [hg]; exact (bs (by repeat (first | (with_reducible first | exact HB.out | apply bm | apply bj | apply bn) | exact HB.out))) : w.heap.size ≤ bH)); clear HB; have HB := n0_; have bD := n1_; have GW219 := n2_; have bK := n3_; clear n0_ n1_ n2_ n3_; clear hb hbox hg))
 repeat (go_quiet (first | ((with_reducible refine gate_dst (N := 1) rfl ?_); (try (refine gate_guard (by rfl) ?_; dsimp only)); refine box_event ?hg (N := 1) ?hd (cs := #[.slice bX bz.length bQ, .slice bR bE.length bS, .int .i64 bG]) (t := 25) ?hr ?_; (case hd => rfl); (case hg => rfl); (case hr => first | (go_simp; done) | (go_simp; rfl)); intro bH hg w3 hbox hb; have n0_ := bu (below_step (by repeat (first | (with_reducible first | exact HB.out | apply bm | apply bj | apply bn) | exact HB.out)) hb); have n1_ := bu (hbox); have n2_ := bu ((by rw [hg]; exact (bs (by repeat (first | (with_reducible first | exact HB.out | apply bm | apply bj | apply bn) | exact HB.out))) : w.heap.size ≤ bH)); have n3_ := bu ((by rw [hg]; exact (bs (by repeat (first | (with_reducible first | exact HB.out | apply bm | apply bj | apply bn) | exact HB.out))) : w.heap.size ≤ bH)); clear HB; have HB := n0_; have bD := n1_; have GW219 := n2_; have bK := n3_; clear n0_ n1_ n2_ n3_; clear hb hbox hg)); go_upto_region 1 with (first | ((with_reducible refine gate_dst (N := 1) rfl ?_); (try (refine gate_guard (by rfl) ?_; dsimp only)); refine box_event ?hg (N := 1) ?hd (cs := #[.slice bX bz.length bQ, .slice bR bE.length bS, .int .i64 bG]) (t := 25) ?hr ?_; (case hd => rfl); (case hg => rfl); (case hr => first | (go_simp; done) | (go_simp; rfl)); intro bH hg w3 hbox hb; have n0_ := bu (below_step (by repeat (first | (with_reducible first | exact HB.out | apply bm | apply bj | apply bn) | exact HB.out)) hb); have n1_ := bu (hbox); have n2_ := bu ((by rw [hg]; exact (bs (by repeat (first | (with_reducible first | exact HB.out | apply bm | apply bj | apply bn) | exact HB.out))) : w.heap.size ≤ bH)); have n3_ := bu ((by rw [hg]; exact (bs (by repeat (first | (with_reducible first | exact HB.out | apply bm | apply bj | apply bn) | exact HB.out))) : w.heap.size ≤ bH)); clear HB; have HB := n0_; have bD := n1_; have GW219 := n2_; have bK := n3_; clear n0_ n1_ n2_ n3_; clear hb hbox hg)))
 (try simp only [Act.put, List.setIfInBounds_toArray, List.set_cons_zero, List.set_cons_succ])
 go_cut [31] (fun v31 wc => ∃ (kq : Nat) (x31_1 : Bool), v31 = .bool x31_1 ∧ Aside0 (cowrieref20_Check.j0 kq x31_1 bz bE bG = some r) ∧ Aside0 (kq ≤ k) ∧ Aside0 (wc.heap[bH]? = some (.cells #[(.slice bX bz.length bQ), (.slice bR bE.length bS), .int .i64 bG] 25 (0, 0))) ∧ Aside0 (Below w.heap.size w wc))
 case first =>
  have H := HC2.out
  clear HC2
  by_cases c4 : (bz.length : Int) > 1024
  ·
   rw [if_pos c4] at H
   have c4b0 : decide (1024 < (bz.length : Int)) = true := decide_eq_true c4
   have c4b1 : decide (1024 < bz.length) = true := decide_eq_true (by omega)
   clear c4
   (first | rw [c4b0] | (simp only [i64_w, i32_w]; rw [c4b0]) | skip)
   have H' := bu H
   clear H
   have hcz5_0 : w3.cell? ⟨bH, 0, none⟩ = some (.slice bX bz.length bQ) := (bo bD.out 0).trans rfl
   have hcz5_1 : w3.cell? ⟨bH, 1, none⟩ = some (.slice bR bE.length bS) := (bo bD.out 1).trans rfl
   have hcz5_2 : w3.cell? ⟨bH, 2, none⟩ = some (.int .i64 bG) := (bo bD.out 2).trans rfl
   have hfz5_0 := bk bD.out 0
   have hfz5_1 := bk bD.out 1
   have hfz5_2 := bk bD.out 2
   go_wp2
   repeat (go_quiet (fail); try go_wp2)
   go_meet
   case rel => exact ⟨_, (true), (by first | rfl | (simp; done) | (simp [*]; done)), H', ⟨by first | omega | exact Nat.le_refl _⟩, ⟨by (with_reducible repeat (first | refine a4 ?_ _ | refine bh ?_ | refine a5 ?_ _)); exact bD.out⟩, ⟨by repeat (first | (with_reducible first | exact HB.out | apply bm | apply bj | apply bn | refine bi ?_ bK.out) | exact HB.out)⟩⟩
  ·
   rw [if_neg c4] at H
   have c4b0 : decide (1024 < (bz.length : Int)) = false := decide_eq_false c4
   have c4b1 : decide (1024 < bz.length) = false := decide_eq_false (by omega)
   clear c4
   (first | rw [c4b0] | (simp only [i64_w, i32_w]; rw [c4b0]) | skip)
   by_cases c6 : (bE.length : Int) > 1024
   ·
    rw [if_pos c6] at H
    have c6b0 : decide (1024 < (bE.length : Int)) = true := decide_eq_true c6
    have c6b1 : decide (1024 < bE.length) = true := decide_eq_true (by omega)
    clear c6
    have H' := bu H
    clear H
    have hcz7_0 : w3.cell? ⟨bH, 0, none⟩ = some (.slice bX bz.length bQ) := (bo bD.out 0).trans rfl
    have hcz7_1 : w3.cell? ⟨bH, 1, none⟩ = some (.slice bR bE.length bS) := (bo bD.out 1).trans rfl
    have hcz7_2 : w3.cell? ⟨bH, 2, none⟩ = some (.int .i64 bG) := (bo bD.out 2).trans rfl
    have hfz7_0 := bk bD.out 0
    have hfz7_1 := bk bD.out 1
    have hfz7_2 := bk bD.out 2
    go_wp2
    repeat (go_quiet (fail); try go_wp2)
    go_meet
    case rel => exact ⟨_, (true), (by first | rfl | (simp; done) | (simp [*]; done)), H', ⟨by first | omega | exact Nat.le_refl _⟩, ⟨by (with_reducible repeat (first | refine a4 ?_ _ | refine bh ?_ | refine a5 ?_ _)); exact bD.out⟩, ⟨by repeat (first | (with_reducible first | exact HB.out | apply bm | apply bj | apply bn | refine bi ?_ bK.out) | exact HB.out)⟩⟩
   ·
    rw [if_neg c6] at H
    have c6b0 : decide (1024 < (bE.length : Int)) = false := decide_eq_false c6
    have c6b1 : decide (1024 < bE.length) = false := decide_eq_false (by omega)
    clear c6
    replace H := Option.bind_eq_some_iff.mp H
    obtain ⟨bW, A80, H⟩ := H
    replace H : (if bW = 0 then (if bG < 0 then (cowrieref20_Check.j0 k true bz bE bG) else (cowrieref20_Check.j0 k (decide (bG > 255)) bz bE bG)) else (cowrieref20_Check.j0 k true bz bE bG)) = some r := H
    have A8 := bu A80
    clear A80
    by_cases c9 : bW = 0
    ·
     rw [if_pos c9] at H
     have c9b0 : (bW == 0) = true := beq_iff_eq.mpr c9
     have c9b1 : (bW != 0) = false := bne_eq_false_iff_eq.mpr c9
     clear c9
     by_cases c10 : bG < 0
     ·
      rw [if_pos c10] at H
      have c10b0 : decide (bG < 0) = true := decide_eq_true c10
      clear c10
      have H' := bu H
      clear H
      have ca : w3.cell? ⟨bH, 0, none⟩ = some (.slice bX bz.length bQ) := (bo bD.out 0).trans rfl
      have cb : w3.cell? ⟨bH, 1, none⟩ = some (.slice bR bE.length bS) := (bo bD.out 1).trans rfl
      have cc : w3.cell? ⟨bH, 2, none⟩ = some (.int .i64 bG) := (bo bD.out 2).trans rfl
      have hfz11_0 := bk bD.out 0
      have hfz11_1 := bk bD.out 1
      have hfz11_2 := bk bD.out 2
      go_wp2_with (first | (go_at_call 26; (with_reducible refine (cowrieref20_texts.calls k _ _ bE bW _ ?bI ?bJ A8.out).mono ?_); (case bI => repeat (first | exact (br bY.out HB.out) | (with_reducible refine bp ?_ _) | (with_reducible refine bq ?_ _) | (with_reducible refine Kd.C_drew ?_))); (case bJ => exact bZ.out); rintro e w' ⟨rfl, ⟨nd, rfl⟩⟩; (try first | exact ⟨rfl, _, World.drewN_drewN _ _ _⟩ | exact ⟨rfl, _, Eq.trans (World.drewN_drewN _ _ _) (congrArg (World.drewN _) (Nat.add_assoc _ _ _))⟩)))
      repeat (go_quiet (first | (go_at_call 26; (with_reducible refine (cowrieref20_texts.calls k _ _ bE bW _ ?bI ?bJ A8.out).mono ?_); (case bI => repeat (first | exact (br bY.out HB.out) | (with_reducible refine bp ?_ _) | (with_reducible refine bq ?_ _) | (with_reducible refine Kd.C_drew ?_))); (case bJ => exact bZ.out); rintro e w' ⟨rfl, ⟨nd, rfl⟩⟩; (try first | exact ⟨rfl, _, World.drewN_drewN _ _ _⟩ | exact ⟨rfl, _, Eq.trans (World.drewN_drewN _ _ _) (congrArg (World.drewN _) (Nat.add_assoc _ _ _))⟩))); try go_wp2_with (first | (go_at_call 26; (with_reducible refine (cowrieref20_texts.calls k _ _ bE bW _ ?bI ?bJ A8.out).mono ?_); (case bI => repeat (first | exact (br bY.out HB.out) | (with_reducible refine bp ?_ _) | (with_reducible refine bq ?_ _) | (with_reducible refine Kd.C_drew ?_))); (case bJ => exact bZ.out); rintro e w' ⟨rfl, ⟨nd, rfl⟩⟩; (try first | exact ⟨rfl, _, World.drewN_drewN _ _ _⟩ | exact ⟨rfl, _, Eq.trans (World.drewN_drewN _ _ _) (congrArg (World.drewN _) (Nat.add_assoc _ _ _))⟩))))
      go_meet
      case rel => exact ⟨_, (true), (by first | rfl | (simp; done) | (simp [*]; done)), H', ⟨by first | omega | exact Nat.le_refl _⟩, ⟨by (with_reducible repeat (first | refine a4 ?_ _ | refine bh ?_ | refine a5 ?_ _)); exact bD.out⟩, ⟨by repeat (first | (with_reducible first | exact HB.out | apply bm | apply bj | apply bn | refine bi ?_ bK.out) | exact HB.out)⟩⟩
     ·
      rw [if_neg c10] at H
      have c10b0 : decide (bG < 0) = false := decide_eq_false c10
      clear c10
      have H' := bu H
      clear H
      have cd : w3.cell? ⟨bH, 0, none⟩ = some (.slice bX bz.length bQ) := (bo bD.out 0).trans rfl
      have ce : w3.cell? ⟨bH, 1, none⟩ = some (.slice bR bE.length bS) := (bo bD.out 1).trans rfl
      have cf : w3.cell? ⟨bH, 2, none⟩ = some (.int .i64 bG) := (bo bD.out 2).trans rfl
      have hfz12_0 := bk bD.out 0
      have hfz12_1 := bk bD.out 1
      have hfz12_2 := bk bD.out 2
      go_wp2_with (first | (go_at_call 26; (with_reducible refine (cowrieref20_texts.calls k _ _ bE bW _ ?bI ?bJ A8.out).mono ?_); (case bI => repeat (first | exact (br bY.out HB.out) | (with_reducible refine bp ?_ _) | (with_reducible refine bq ?_ _) | (with_reducible refine Kd.C_drew ?_))); (case bJ => exact bZ.out); rintro e w' ⟨rfl, ⟨nd, rfl⟩⟩; (try first | exact ⟨rfl, _, World.drewN_drewN _ _ _⟩ | exact ⟨rfl, _, Eq.trans (World.drewN_drewN _ _ _) (congrArg (World.drewN _) (Nat.add_assoc _ _ _))⟩)))
      repeat (go_quiet (first | (go_at_call 26; (with_reducible refine (cowrieref20_texts.calls k _ _ bE bW _ ?bI ?bJ A8.out).mono ?_); (case bI => repeat (first | exact (br bY.out HB.out) | (with_reducible refine bp ?_ _) | (with_reducible refine bq ?_ _) | (with_reducible refine Kd.C_drew ?_))); (case bJ => exact bZ.out); rintro e w' ⟨rfl, ⟨nd, rfl⟩⟩; (try first | exact ⟨rfl, _, World.drewN_drewN _ _ _⟩ | exact ⟨rfl, _, Eq.trans (World.drewN_drewN _ _ _) (congrArg (World.drewN _) (Nat.add_assoc _ _ _))⟩))); try go_wp2_with (first | (go_at_call 26; (with_reducible refine (cowrieref20_texts.calls k _ _ bE bW _ ?bI ?bJ A8.out).mono ?_); (case bI => repeat (first | exact (br bY.out HB.out) | (with_reducible refine bp ?_ _) | (with_reducible refine bq ?_ _) | (with_reducible refine Kd.C_drew ?_))); (case bJ => exact bZ.out); rintro e w' ⟨rfl, ⟨nd, rfl⟩⟩; (try first | exact ⟨rfl, _, World.drewN_drewN _ _ _⟩ | exact ⟨rfl, _, Eq.trans (World.drewN_drewN _ _ _) (congrArg (World.drewN _) (Nat.add_assoc _ _ _))⟩))))
      go_meet
      case rel => exact ⟨_, (decide (bG > 255)), (by first | rfl | (simp; done) | (simp [*]; done)), H', ⟨by first | omega | exact Nat.le_refl _⟩, ⟨by (with_reducible repeat (first | refine a4 ?_ _ | refine bh ?_ | refine a5 ?_ _)); exact bD.out⟩, ⟨by repeat (first | (with_reducible first | exact HB.out | apply bm | apply bj | apply bn | refine bi ?_ bK.out) | exact HB.out)⟩⟩
    ·
     rw [if_neg c9] at H
     have c9b0 : (bW == 0) = false := beq_eq_false_iff_ne.mpr c9
     have c9b1 : (bW != 0) = true := bne_iff_ne.mpr c9
     have H' := bu H
     clear H
     have cg : w3.cell? ⟨bH, 0, none⟩ = some (.slice bX bz.length bQ) := (bo bD.out 0).trans rfl
     have ch : w3.cell? ⟨bH, 1, none⟩ = some (.slice bR bE.length bS) := (bo bD.out 1).trans rfl
     have ci : w3.cell? ⟨bH, 2, none⟩ = some (.int .i64 bG) := (bo bD.out 2).trans rfl
     have hfz13_0 := bk bD.out 0
     have hfz13_1 := bk bD.out 1
     have hfz13_2 := bk bD.out 2
     go_wp2_with (first | (go_at_call 26; (with_reducible refine (cowrieref20_texts.calls k _ _ bE bW _ ?bI ?bJ A8.out).mono ?_); (case bI => repeat (first | exact (br bY.out HB.out) | (with_reducible refine bp ?_ _) | (with_reducible refine bq ?_ _) | (with_reducible refine Kd.C_drew ?_))); (case bJ => exact bZ.out); rintro e w' ⟨rfl, ⟨nd, rfl⟩⟩; (try first | exact ⟨rfl, _, World.drewN_drewN _ _ _⟩ | exact ⟨rfl, _, Eq.trans (World.drewN_drewN _ _ _) (congrArg (World.drewN _) (Nat.add_assoc _ _ _))⟩)))
     repeat (go_quiet (first | (go_at_call 26; (with_reducible refine (cowrieref20_texts.calls k _ _ bE bW _ ?bI ?bJ A8.out).mono ?_); (case bI => repeat (first | exact (br bY.out HB.out) | (with_reducible refine bp ?_ _) | (with_reducible refine bq ?_ _) | (with_reducible refine Kd.C_drew ?_))); (case bJ => exact bZ.out); rintro e w' ⟨rfl, ⟨nd, rfl⟩⟩; (try first | exact ⟨rfl, _, World.drewN_drewN _ _ _⟩ | exact ⟨rfl, _, Eq.trans (World.drewN_drewN _ _ _) (congrArg (World.drewN _) (Nat.add_assoc _ _ _))⟩))); try go_wp2_with (first | (go_at_call 26; (with_reducible refine (cowrieref20_texts.calls k _ _ bE bW _ ?bI ?bJ A8.out).mono ?_); (case bI => repeat (first | exact (br bY.out HB.out) | (with_reducible refine bp ?_ _) | (with_reducible refine bq ?_ _) | (with_reducible refine Kd.C_drew ?_))); (case bJ => exact bZ.out); rintro e w' ⟨rfl, ⟨nd, rfl⟩⟩; (try first | exact ⟨rfl, _, World.drewN_drewN _ _ _⟩ | exact ⟨rfl, _, Eq.trans (World.drewN_drewN _ _ _) (congrArg (World.drewN _) (Nat.add_assoc _ _ _))⟩))))
     go_meet
     case rel => exact ⟨_, (true), (by first | rfl | (simp; done) | (simp [*]; done)), H', ⟨by first | omega | exact Nat.le_refl _⟩, ⟨by (with_reducible repeat (first | refine a4 ?_ _ | refine bh ?_ | refine a5 ?_ _)); exact bD.out⟩, ⟨by repeat (first | (with_reducible first | exact HB.out | apply bm | apply bj | apply bn | refine bi ?_ bK.out) | exact HB.out)⟩⟩
 case rest =>
  clear HC2
  try clear c1
  try clear p2
  try clear c4
  try clear c4b0
  try clear c4b1
  try clear c6
  try clear c6b0
  try clear c6b1
  try clear c9
  try clear c9b0
  try clear c9b1
  try clear c10
  try clear c10b0
  try clear c13
  try clear ca
  try clear cb
  try clear cc
  try clear cd
  try clear ce
  try clear cf
  try clear cg
  try clear ch
  try clear ci
  try clear hcz5_0
  try clear hcz5_1
  try clear hcz5_2
  try clear hcz7_0
  try clear hcz7_1
  try clear hcz7_2
  try clear hfz11_0
  try clear hfz11_1
  try clear hfz11_2
  try clear hfz12_0
  try clear hfz12_1
  try clear hfz12_2
  try clear hfz13_0
  try clear hfz13_1
  try clear hfz13_2
  try clear hfz5_0
  try clear hfz5_1
  try clear hfz5_2
  try clear hfz7_0
  try clear hfz7_1
  try clear hfz7_2
  obtain ⟨kq, x31_1, rfl, HA, HJ1, bD, HB⟩ := hcut
  cases kq with
  | zero => exact absurd HA.out (by simp [cowrieref20_Check.j0])
  | succ kj1 =>
   have H := HA.out
   clear HA
   simp only [cowrieref20_Check.j0] at H
   by_cases c14 : x31_1 = true
   ·
    subst c14
    have H1 : (some 9) = some r := by rw [if_pos rfl] at H; exact H
    clear H
    have H := H1
    clear H1
    obtain rfl := Option.some.inj H
    go_wp2
    repeat (go_quiet (fail); try go_wp2)
    go_ret
    exact ⟨by first | rfl | (simp [errW_none, errW_some] <;> rfl) | (simp [*, errW_none, errW_some] <;> rfl), by repeat (first | (with_reducible first | exact HB.out | apply bm | apply bj | apply bn | refine bi ?_ bK.out) | exact HB.out)⟩
   ·
    replace c14 := Bool.eq_false_iff.mpr c14
    subst c14
    have H1 : (cowrieref20_Check.l0 kj1 0 bz bE bG) = some r := by rw [if_neg (show ¬ (false = true) by decide)] at H; exact H
    clear H
    have H := H1
    clear H1
    have H' := bu H
    clear H
    go_wp2
    repeat (go_quiet (fail); try go_wp2)
    go_loopg [3] kj1 (fun kq v3 w' => ∃ (bA : Int), v3 = .int .i64 bA ∧ Aside0 (cowrieref20_Check.l0 kq bA bz bE bG = some r) ∧ Aside0 (kq ≤ kj1) ∧ Aside0 (w'.heap[bH]? = some (.cells #[(.slice bX bz.length bQ), (.slice bR bE.length bS), .int .i64 bG] 25 (0, 0))) ∧ Aside0 (Below w.heap.size w w'))
    case atStart => exact ⟨(0), (by first | rfl | (simp; done) | (simp [*]; done)), H', ⟨Nat.le_refl _⟩, ⟨by (with_reducible repeat (first | refine a4 ?_ _ | refine bh ?_ | refine a5 ?_ _)); exact bD.out⟩, ⟨by repeat (first | (with_reducible first | exact HB.out | apply bm | apply bj | apply bn | refine bi ?_ bK.out) | exact HB.out)⟩⟩
    case round =>
     clear H'
     try clear c1
     try clear p2
     try clear c4
     try clear c4b0
     try clear c4b1
     try clear c6
     try clear c6b0
     try clear c6b1
     try clear c9
     try clear c9b0
     try clear c9b1
     try clear c10
     try clear c10b0
     try clear c13
     try clear c14
     try clear ca
     try clear cb
     try clear cc
     try clear cd
     try clear ce
     try clear cf
     try clear cg
     try clear ch
     try clear ci
     try clear hcz5_0
     try clear hcz5_1
     try clear hcz5_2
     try clear hcz7_0
     try clear hcz7_1
     try clear hcz7_2
     try clear hfz11_0
     try clear hfz11_1
     try clear hfz11_2
     try clear hfz12_0
     try clear hfz12_1
     try clear hfz12_2
     try clear hfz13_0
     try clear hfz13_1
     try clear hfz13_2
     try clear hfz5_0
     try clear hfz5_1
     try clear hfz5_2
     try clear hfz7_0
     try clear hfz7_1
     try clear hfz7_2
     try clear p2
     obtain ⟨bA, rfl, HA, HK2, bD, HB⟩ := hrel
     cases gk with
     | zero => exact absurd HA.out (by simp [cowrieref20_Check.l0])
     | succ k2 =>
      have H := HA.out
      clear HA
      simp only [cowrieref20_Check.l0] at H
      by_cases c15 : bA < (bz.length : Int)
      ·
       rw [if_pos c15] at H
       have c15b0 : decide (bA < (bz.length : Int)) = true := decide_eq_true c15
       clear c15
       by_cases c16 : 0 ≤ bA
       ·
        rw [if_pos c16] at H
        have c16b0 : decide (0 ≤ bA) = true := decide_eq_true c16
        clear c16
        have HC17 := bu H
        clear H
        have hcz18_0 : wr.cell? ⟨bH, 0, none⟩ = some (.slice bX bz.length bQ) := (bo bD.out 0).trans rfl
        have hcz18_1 : wr.cell? ⟨bH, 1, none⟩ = some (.slice bR bE.length bS) := (bo bD.out 1).trans rfl
        have hcz18_2 : wr.cell? ⟨bH, 2, none⟩ = some (.int .i64 bG) := (bo bD.out 2).trans rfl
        have hfz18_0 := bk bD.out 0
        have hfz18_1 := bk bD.out 1
        have hfz18_2 := bk bD.out 2
        have p221 : 0 ≤ (bA : Int) := of_decide_eq_true (by first | (with_reducible assumption) | assumption)
        have q221 : bA < (bz.length : Int) := of_decide_eq_true (by first | (with_reducible assumption) | assumption)
        obtain ⟨ad221, A221_3, c221_3, e221, hx221_0, hx221_1, hx221_2, hx221_3, hl221_3, hi221_3⟩ := at_T53 HR0_0.out bA p221 q221
        cases e221
        replace hx221_0 := (HB.out.cell (World.block_lt_of_cell? w _ hx221_0)).trans hx221_0
        replace hx221_1 := (HB.out.cell (World.block_lt_of_cell? w _ hx221_1)).trans hx221_1
        replace hx221_2 := (HB.out.cell (World.block_lt_of_cell? w _ hx221_2)).trans hx221_2
        replace hx221_3 := (HB.out.cell (World.block_lt_of_cell? w _ hx221_3)).trans hx221_3
        have bN := bu hi221_3
        have bO := bu hl221_3
        clear hi221_3 hl221_3
        replace p221 := eq_true p221
        replace q221 := eq_true q221
        go_upto_region 7 with (first | ((with_reducible refine gate_dst (N := 4) rfl ?_); (try (refine gate_guard (by rfl) ?_; dsimp only)); refine box_event ?hg (N := 4) ?hd (cs := #[.string (⟨#[]⟩ : ByteArray), .string (⟨#[]⟩ : ByteArray), .bool false, .slice none 0 0]) (t := 53) ?hr ?_; (case hd => rfl); (case hg => rfl); (case hr => first | (go_simp; done) | (go_simp; rfl)); intro bF hg bV hbox hb; have n0_ := bu (bl (g := bH) (o := .cells #[.slice (some ad221) bz.length bQ, .slice bR bE.length bS, .int .i64 bG] 25 (0, 0)) (by (with_reducible repeat (first | refine a4 ?_ _ | refine bh ?_ | refine a5 ?_ _)); exact bD.out) hb); have n1_ := bu (below_step (by repeat (first | (with_reducible first | exact HB.out | apply bm | apply bj | apply bn | refine bi ?_ bK.out) | exact HB.out)) hb); have n2_ := bu (hbox); have n3_ := bu ((by rw [hg]; exact (bs (by repeat (first | (with_reducible first | exact HB.out | apply bm | apply bj | apply bn | refine bi ?_ bK.out) | exact HB.out))) : w.heap.size ≤ bF)); have n4_ := bu ((by rw [hg]; exact (bs (by repeat (first | (with_reducible first | exact HB.out | apply bm | apply bj | apply bn | refine bi ?_ bK.out) | exact HB.out))) : w.heap.size ≤ bF)); have n5_ := bu ((by rw [hg]; exact Nat.ne_of_lt (blk_lt (g := bH) (o := .cells #[.slice (some ad221) bz.length bQ, .slice bR bE.length bS, .int .i64 bG] 25 (0, 0)) (by (with_reducible repeat (first | refine a4 ?_ _ | refine bh ?_ | refine a5 ?_ _)); exact bD.out)) : bH ≠ bF)); have n6_ := bu ((by rw [hg]; exact Nat.ne_of_gt (blk_lt (g := bH) (o := .cells #[.slice (some ad221) bz.length bQ, .slice bR bE.length bS, .int .i64 bG] 25 (0, 0)) (by (with_reducible repeat (first | refine a4 ?_ _ | refine bh ?_ | refine a5 ?_ _)); exact bD.out)) : bF ≠ bH)); clear bD; clear HB; have bD := n0_; have HB := n1_; have bB := n2_; have GW222 := n3_; have bM := n4_; have bC := n5_; have bL := n6_; clear n0_ n1_ n2_ n3_ n4_ n5_ n6_; clear hb hbox hg; have hnb20 := bL.out; have hnc20 := bC.out; have cj : bV.cell? ⟨bF, 0, none⟩ = some (.string (⟨#[]⟩ : ByteArray)) := (bo bB.out 0).trans rfl; have ck : bV.cell? ⟨bF, 1, none⟩ = some (.string (⟨#[]⟩ : ByteArray)) := (bo bB.out 1).trans rfl; have cl : bV.cell? ⟨bF, 2, none⟩ = some (.bool false) := (bo bB.out 2).trans rfl; have cm : bV.cell? ⟨bF, 3, none⟩ = some (.slice none 0 0) := (bo bB.out 3).trans rfl; have hfz21_0 := bk bB.out 0; have hfz21_1 := bk bB.out 1; have hfz21_2 := bk bB.out 2; have hfz21_3 := bk bB.out 3))
        repeat (go_quiet (first | ((with_reducible refine gate_dst (N := 4) rfl ?_); (try (refine gate_guard (by rfl) ?_; dsimp only)); refine box_event ?hg (N := 4) ?hd (cs := #[.string (⟨#[]⟩ : ByteArray), .string (⟨#[]⟩ : ByteArray), .bool false, .slice none 0 0]) (t := 53) ?hr ?_; (case hd => rfl); (case hg => rfl); (case hr => first | (go_simp; done) | (go_simp; rfl)); intro bF hg bV hbox hb; have n0_ := bu (bl (g := bH) (o := .cells #[.slice (some ad221) bz.length bQ, .slice bR bE.length bS, .int .i64 bG] 25 (0, 0)) (by (with_reducible repeat (first | refine a4 ?_ _ | refine bh ?_ | refine a5 ?_ _)); exact bD.out) hb); have n1_ := bu (below_step (by repeat (first | (with_reducible first | exact HB.out | apply bm | apply bj | apply bn | refine bi ?_ bK.out) | exact HB.out)) hb); have n2_ := bu (hbox); have n3_ := bu ((by rw [hg]; exact (bs (by repeat (first | (with_reducible first | exact HB.out | apply bm | apply bj | apply bn | refine bi ?_ bK.out) | exact HB.out))) : w.heap.size ≤ bF)); have n4_ := bu ((by rw [hg]; exact (bs (by repeat (first | (with_reducible first | exact HB.out | apply bm | apply bj | apply bn | refine bi ?_ bK.out) | exact HB.out))) : w.heap.size ≤ bF)); have n5_ := bu ((by rw [hg]; exact Nat.ne_of_lt (blk_lt (g := bH) (o := .cells #[.slice (some ad221) bz.length bQ, .slice bR bE.length bS, .int .i64 bG] 25 (0, 0)) (by (with_reducible repeat (first | refine a4 ?_ _ | refine bh ?_ | refine a5 ?_ _)); exact bD.out)) : bH ≠ bF)); have n6_ := bu ((by rw [hg]; exact Nat.ne_of_gt (blk_lt (g := bH) (o := .cells #[.slice (some ad221) bz.length bQ, .slice bR bE.length bS, .int .i64 bG] 25 (0, 0)) (by (with_reducible repeat (first | refine a4 ?_ _ | refine bh ?_ | refine a5 ?_ _)); exact bD.out)) : bF ≠ bH)); clear bD; clear HB; have bD := n0_; have HB := n1_; have bB := n2_; have GW222 := n3_; have bM := n4_; have bC := n5_; have bL := n6_; clear n0_ n1_ n2_ n3_ n4_ n5_ n6_; clear hb hbox hg; have hnb20 := bL.out; have hnc20 := bC.out; have cj : bV.cell? ⟨bF, 0, none⟩ = some (.string (⟨#[]⟩ : ByteArray)) := (bo bB.out 0).trans rfl; have ck : bV.cell? ⟨bF, 1, none⟩ = some (.string (⟨#[]⟩ : ByteArray)) := (bo bB.out 1).trans rfl; have cl : bV.cell? ⟨bF, 2, none⟩ = some (.bool false) := (bo bB.out 2).trans rfl; have cm : bV.cell? ⟨bF, 3, none⟩ = some (.slice none 0 0) := (bo bB.out 3).trans rfl; have hfz21_0 := bk bB.out 0; have hfz21_1 := bk bB.out 1; have hfz21_2 := bk bB.out 2; have hfz21_3 := bk bB.out 3)); go_upto_region 7 with (first | ((with_reducible refine gate_dst (N := 4) rfl ?_); (try (refine gate_guard (by rfl) ?_; dsimp only)); refine box_event ?hg (N := 4) ?hd (cs := #[.string (⟨#[]⟩ : ByteArray), .string (⟨#[]⟩ : ByteArray), .bool false, .slice none 0 0]) (t := 53) ?hr ?_; (case hd => rfl); (case hg => rfl); (case hr => first | (go_simp; done) | (go_simp; rfl)); intro bF hg bV hbox hb; have n0_ := bu (bl (g := bH) (o := .cells #[.slice (some ad221) bz.length bQ, .slice bR bE.length bS, .int .i64 bG] 25 (0, 0)) (by (with_reducible repeat (first | refine a4 ?_ _ | refine bh ?_ | refine a5 ?_ _)); exact bD.out) hb); have n1_ := bu (below_step (by repeat (first | (with_reducible first | exact HB.out | apply bm | apply bj | apply bn | refine bi ?_ bK.out) | exact HB.out)) hb); have n2_ := bu (hbox); have n3_ := bu ((by rw [hg]; exact (bs (by repeat (first | (with_reducible first | exact HB.out | apply bm | apply bj | apply bn | refine bi ?_ bK.out) | exact HB.out))) : w.heap.size ≤ bF)); have n4_ := bu ((by rw [hg]; exact (bs (by repeat (first | (with_reducible first | exact HB.out | apply bm | apply bj | apply bn | refine bi ?_ bK.out) | exact HB.out))) : w.heap.size ≤ bF)); have n5_ := bu ((by rw [hg]; exact Nat.ne_of_lt (blk_lt (g := bH) (o := .cells #[.slice (some ad221) bz.length bQ, .slice bR bE.length bS, .int .i64 bG] 25 (0, 0)) (by (with_reducible repeat (first | refine a4 ?_ _ | refine bh ?_ | refine a5 ?_ _)); exact bD.out)) : bH ≠ bF)); have n6_ := bu ((by rw [hg]; exact Nat.ne_of_gt (blk_lt (g := bH) (o := .cells #[.slice (some ad221) bz.length bQ, .slice bR bE.length bS, .int .i64 bG] 25 (0, 0)) (by (with_reducible repeat (first | refine a4 ?_ _ | refine bh ?_ | refine a5 ?_ _)); exact bD.out)) : bF ≠ bH)); clear bD; clear HB; have bD := n0_; have HB := n1_; have bB := n2_; have GW222 := n3_; have bM := n4_; have bC := n5_; have bL := n6_; clear n0_ n1_ n2_ n3_ n4_ n5_ n6_; clear hb hbox hg; have hnb20 := bL.out; have hnc20 := bC.out; have cj : bV.cell? ⟨bF, 0, none⟩ = some (.string (⟨#[]⟩ : ByteArray)) := (bo bB.out 0).trans rfl; have ck : bV.cell? ⟨bF, 1, none⟩ = some (.string (⟨#[]⟩ : ByteArray)) := (bo bB.out 1).trans rfl; have cl : bV.cell? ⟨bF, 2, none⟩ = some (.bool false) := (bo bB.out 2).trans rfl; have cm : bV.cell? ⟨bF, 3, none⟩ = some (.slice none 0 0) := (bo bB.out 3).trans rfl; have hfz21_0 := bk bB.out 0; have hfz21_1 := bk bB.out 1; have hfz21_2 := bk bB.out 2; have hfz21_3 := bk bB.out 3)))
        (try simp only [Act.put, List.setIfInBounds_toArray, List.set_cons_zero, List.set_cons_succ])
        go_cut [85] (fun v85 wc => ∃ (kq : Nat) (x85_16 : Bool), v85 = .bool x85_16 ∧ Aside0 (cowrieref20_Check.j2 kq bA x85_16 bz bE bG ((rd_T53 bz bA).f0) ((rd_T53 bz bA).f1) ((rd_T53 bz bA).f2) ((rd_T53 bz bA).f3) = some r) ∧ Aside0 (kq ≤ k2) ∧ Aside0 (wc.heap[bH]? = some (.cells #[(.slice (some ad221) bz.length bQ), (.slice bR bE.length bS), .int .i64 bG] 25 (0, 0))) ∧ Aside0 (wc.heap[bF]? = some (.cells #[.string ((rd_T53 bz bA).f0), .string ((rd_T53 bz bA).f1), .bool ((rd_T53 bz bA).f2), (.slice A221_3 ((rd_T53 bz bA).f3).length c221_3)] 53 (0, 0))) ∧ Aside0 (Below w.heap.size w wc))
        case first =>
         have H := HC17.out
         clear HC17
         replace H := Option.bind_eq_some_iff.mp H
         obtain ⟨t223, A220, H⟩ := H
         replace H : (if t223 = true then ((cowrieref20_text.f k2 ((rd_T53 bz bA).f1)).bind fun bP => (if bP = 0 then ((cowrieref20_texts.f k2 ((rd_T53 bz bA).f3)).bind fun bT => (if bT = 0 then (if (((rd_T53 bz bA).f3).length : Int) > 1024 then (cowrieref20_Check.j2 k2 bA true bz bE bG ((rd_T53 bz bA).f0) ((rd_T53 bz bA).f1) ((rd_T53 bz bA).f2) ((rd_T53 bz bA).f3)) else (if (rd_T53 bz bA).f2 = true then (if ((rd_T53 bz bA).f1).toList = ([] : List UInt8) then (if ((rd_T53 bz bA).f2 = true) then (cowrieref20_Check.j2 k2 bA false bz bE bG ((rd_T53 bz bA).f0) ((rd_T53 bz bA).f1) ((rd_T53 bz bA).f2) ((rd_T53 bz bA).f3)) else (cowrieref20_Check.j2 k2 bA (decide ((((rd_T53 bz bA).f3).length : Int) > 0)) bz bE bG ((rd_T53 bz bA).f0) ((rd_T53 bz bA).f1) ((rd_T53 bz bA).f2) ((rd_T53 bz bA).f3))) else (cowrieref20_Check.j2 k2 bA true bz bE bG ((rd_T53 bz bA).f0) ((rd_T53 bz bA).f1) ((rd_T53 bz bA).f2) ((rd_T53 bz bA).f3))) else (if ((rd_T53 bz bA).f2 = true) then (cowrieref20_Check.j2 k2 bA false bz bE bG ((rd_T53 bz bA).f0) ((rd_T53 bz bA).f1) ((rd_T53 bz bA).f2) ((rd_T53 bz bA).f3)) else (cowrieref20_Check.j2 k2 bA (decide ((((rd_T53 bz bA).f3).length : Int) > 0)) bz bE bG ((rd_T53 bz bA).f0) ((rd_T53 bz bA).f1) ((rd_T53 bz bA).f2) ((rd_T53 bz bA).f3))))) else (cowrieref20_Check.j2 k2 bA true bz bE bG ((rd_T53 bz bA).f0) ((rd_T53 bz bA).f1) ((rd_T53 bz bA).f2) ((rd_T53 bz bA).f3)))) else (cowrieref20_Check.j2 k2 bA true bz bE bG ((rd_T53 bz bA).f0) ((rd_T53 bz bA).f1) ((rd_T53 bz bA).f2) ((rd_T53 bz bA).f3)))) else (cowrieref20_Check.j2 k2 bA true bz bE bG ((rd_T53 bz bA).f0) ((rd_T53 bz bA).f1) ((rd_T53 bz bA).f2) ((rd_T53 bz bA).f3))) = some r := H
         have A22 := bu A220
         clear A220
         by_cases c23 : t223 = true
         ·
          subst c23
          have H1 : ((cowrieref20_text.f k2 ((rd_T53 bz bA).f1)).bind fun bP => (if bP = 0 then ((cowrieref20_texts.f k2 ((rd_T53 bz bA).f3)).bind fun bT => (if bT = 0 then (if (((rd_T53 bz bA).f3).length : Int) > 1024 then (cowrieref20_Check.j2 k2 bA true bz bE bG ((rd_T53 bz bA).f0) ((rd_T53 bz bA).f1) ((rd_T53 bz bA).f2) ((rd_T53 bz bA).f3)) else (if (rd_T53 bz bA).f2 = true then (if ((rd_T53 bz bA).f1).toList = ([] : List UInt8) then (if ((rd_T53 bz bA).f2 = true) then (cowrieref20_Check.j2 k2 bA false bz bE bG ((rd_T53 bz bA).f0) ((rd_T53 bz bA).f1) ((rd_T53 bz bA).f2) ((rd_T53 bz bA).f3)) else (cowrieref20_Check.j2 k2 bA (decide ((((rd_T53 bz bA).f3).length : Int) > 0)) bz bE bG ((rd_T53 bz bA).f0) ((rd_T53 bz bA).f1) ((rd_T53 bz bA).f2) ((rd_T53 bz bA).f3))) else (cowrieref20_Check.j2 k2 bA true bz bE bG ((rd_T53 bz bA).f0) ((rd_T53 bz bA).f1) ((rd_T53 bz bA).f2) ((rd_T53 bz bA).f3))) else (if ((rd_T53 bz bA).f2 = true) then (cowrieref20_Check.j2 k2 bA false bz bE bG ((rd_T53 bz bA).f0) ((rd_T53 bz bA).f1) ((rd_T53 bz bA).f2) ((rd_T53 bz bA).f3)) else (cowrieref20_Check.j2 k2 bA (decide ((((rd_T53 bz bA).f3).length : Int) > 0)) bz bE bG ((rd_T53 bz bA).f0) ((rd_T53 bz bA).f1) ((rd_T53 bz bA).f2) ((rd_T53 bz bA).f3))))) else (cowrieref20_Check.j2 k2 bA true bz bE bG ((rd_T53 bz bA).f0) ((rd_T53 bz bA).f1) ((rd_T53 bz bA).f2) ((rd_T53 bz bA).f3)))) else (cowrieref20_Check.j2 k2 bA true bz bE bG ((rd_T53 bz bA).f0) ((rd_T53 bz bA).f1) ((rd_T53 bz bA).f2) ((rd_T53 bz bA).f3)))) = some r := by rw [if_pos rfl] at H; exact H
          clear H
          have H := H1
          clear H1
          replace H := Option.bind_eq_some_iff.mp H
          obtain ⟨bP, A240, H⟩ := H
          replace H : (if bP = 0 then ((cowrieref20_texts.f k2 ((rd_T53 bz bA).f3)).bind fun bT => (if bT = 0 then (if (((rd_T53 bz bA).f3).length : Int) > 1024 then (cowrieref20_Check.j2 k2 bA true bz bE bG ((rd_T53 bz bA).f0) ((rd_T53 bz bA).f1) ((rd_T53 bz bA).f2) ((rd_T53 bz bA).f3)) else (if (rd_T53 bz bA).f2 = true then (if ((rd_T53 bz bA).f1).toList = ([] : List UInt8) then (if ((rd_T53 bz bA).f2 = true) then (cowrieref20_Check.j2 k2 bA false bz bE bG ((rd_T53 bz bA).f0) ((rd_T53 bz bA).f1) ((rd_T53 bz bA).f2) ((rd_T53 bz bA).f3)) else (cowrieref20_Check.j2 k2 bA (decide ((((rd_T53 bz bA).f3).length : Int) > 0)) bz bE bG ((rd_T53 bz bA).f0) ((rd_T53 bz bA).f1) ((rd_T53 bz bA).f2) ((rd_T53 bz bA).f3))) else (cowrieref20_Check.j2 k2 bA true bz bE bG ((rd_T53 bz bA).f0) ((rd_T53 bz bA).f1) ((rd_T53 bz bA).f2) ((rd_T53 bz bA).f3))) else (if ((rd_T53 bz bA).f2 = true) then (cowrieref20_Check.j2 k2 bA false bz bE bG ((rd_T53 bz bA).f0) ((rd_T53 bz bA).f1) ((rd_T53 bz bA).f2) ((rd_T53 bz bA).f3)) else (cowrieref20_Check.j2 k2 bA (decide ((((rd_T53 bz bA).f3).length : Int) > 0)) bz bE bG ((rd_T53 bz bA).f0) ((rd_T53 bz bA).f1) ((rd_T53 bz bA).f2) ((rd_T53 bz bA).f3))))) else (cowrieref20_Check.j2 k2 bA true bz bE bG ((rd_T53 bz bA).f0) ((rd_T53 bz bA).f1) ((rd_T53 bz bA).f2) ((rd_T53 bz bA).f3)))) else (cowrieref20_Check.j2 k2 bA true bz bE bG ((rd_T53 bz bA).f0) ((rd_T53 bz bA).f1) ((rd_T53 bz bA).f2) ((rd_T53 bz bA).f3))) = some r := H
          have A24 := bu A240
          clear A240
          by_cases c25 : bP = 0
          ·
           rw [if_pos c25] at H
           have c25b0 : (bP == 0) = true := beq_iff_eq.mpr c25
           have c25b1 : (bP != 0) = false := bne_eq_false_iff_eq.mpr c25
           clear c25
           (first | rw [c25b0] | (simp only [i64_w, i32_w]; rw [c25b0]) | skip)
           replace H := Option.bind_eq_some_iff.mp H
           obtain ⟨bT, A260, H⟩ := H
           replace H : (if bT = 0 then (if (((rd_T53 bz bA).f3).length : Int) > 1024 then (cowrieref20_Check.j2 k2 bA true bz bE bG ((rd_T53 bz bA).f0) ((rd_T53 bz bA).f1) ((rd_T53 bz bA).f2) ((rd_T53 bz bA).f3)) else (if (rd_T53 bz bA).f2 = true then (if ((rd_T53 bz bA).f1).toList = ([] : List UInt8) then (if ((rd_T53 bz bA).f2 = true) then (cowrieref20_Check.j2 k2 bA false bz bE bG ((rd_T53 bz bA).f0) ((rd_T53 bz bA).f1) ((rd_T53 bz bA).f2) ((rd_T53 bz bA).f3)) else (cowrieref20_Check.j2 k2 bA (decide ((((rd_T53 bz bA).f3).length : Int) > 0)) bz bE bG ((rd_T53 bz bA).f0) ((rd_T53 bz bA).f1) ((rd_T53 bz bA).f2) ((rd_T53 bz bA).f3))) else (cowrieref20_Check.j2 k2 bA true bz bE bG ((rd_T53 bz bA).f0) ((rd_T53 bz bA).f1) ((rd_T53 bz bA).f2) ((rd_T53 bz bA).f3))) else (if ((rd_T53 bz bA).f2 = true) then (cowrieref20_Check.j2 k2 bA false bz bE bG ((rd_T53 bz bA).f0) ((rd_T53 bz bA).f1) ((rd_T53 bz bA).f2) ((rd_T53 bz bA).f3)) else (cowrieref20_Check.j2 k2 bA (decide ((((rd_T53 bz bA).f3).length : Int) > 0)) bz bE bG ((rd_T53 bz bA).f0) ((rd_T53 bz bA).f1) ((rd_T53 bz bA).f2) ((rd_T53 bz bA).f3))))) else (cowrieref20_Check.j2 k2 bA true bz bE bG ((rd_T53 bz bA).f0) ((rd_T53 bz bA).f1) ((rd_T53 bz bA).f2) ((rd_T53 bz bA).f3))) = some r := H
           have A26 := bu A260
           clear A260
           by_cases c27 : bT = 0
           ·
            rw [if_pos c27] at H
            have c27b0 : (bT == 0) = true := beq_iff_eq.mpr c27
            have c27b1 : (bT != 0) = false := bne_eq_false_iff_eq.mpr c27
            clear c27
            by_cases c28 : (((rd_T53 bz bA).f3).length : Int) > 1024
            ·
             rw [if_pos c28] at H
             have c28b0 : decide (1024 < (((rd_T53 bz bA).f3).length : Int)) = true := decide_eq_true c28
             have c28b1 : decide (1024 < ((rd_T53 bz bA).f3).length) = true := decide_eq_true (by omega)
             clear c28
             have H' := bu H
             clear H
             have hnb29 := bL.out
             have hnc29 := bC.out
             have hcz30_0 : bV.cell? ⟨bF, 0, none⟩ = some (.string (⟨#[]⟩ : ByteArray)) := (bo bB.out 0).trans rfl
             have hcz30_1 : bV.cell? ⟨bF, 1, none⟩ = some (.string (⟨#[]⟩ : ByteArray)) := (bo bB.out 1).trans rfl
             have hcz30_2 : bV.cell? ⟨bF, 2, none⟩ = some (.bool false) := (bo bB.out 2).trans rfl
             have hcz30_3 : bV.cell? ⟨bF, 3, none⟩ = some (.slice none 0 0) := (bo bB.out 3).trans rfl
             have hfz30_0 := bk bB.out 0
             have hfz30_1 := bk bB.out 1
             have hfz30_2 := bk bB.out 2
             have hfz30_3 := bk bB.out 3
             go_wp2_with (first | (go_at_call 27; (with_reducible refine (cowrieref01_Name.calls k2 ((rd_T53 bz bA).f0) true _ A22.out).mono ?_); rintro e w' ⟨rfl, ⟨nd, rfl⟩⟩; (try first | exact ⟨rfl, _, World.drewN_drewN _ _ _⟩ | exact ⟨rfl, _, Eq.trans (World.drewN_drewN _ _ _) (congrArg (World.drewN _) (Nat.add_assoc _ _ _))⟩)) | (go_at_call 28; (with_reducible refine (cowrieref20_text.calls k2 ((rd_T53 bz bA).f1) bP _ A24.out).mono ?_); rintro e w' ⟨rfl, ⟨nd, rfl⟩⟩; (try first | exact ⟨rfl, _, World.drewN_drewN _ _ _⟩ | exact ⟨rfl, _, Eq.trans (World.drewN_drewN _ _ _) (congrArg (World.drewN _) (Nat.add_assoc _ _ _))⟩)) | (go_at_call 26; (with_reducible refine (cowrieref20_texts.calls k2 _ _ ((rd_T53 bz bA).f3) bT _ ?bI ?bJ A26.out).mono ?_); (case bI => exact br bN.out (by repeat (first | (with_reducible first | exact HB.out | apply bm | apply bj | apply bn | refine bi ?_ bK.out | refine bi ?_ bM.out) | exact HB.out))); (case bJ => exact bO.out); rintro e w' ⟨rfl, ⟨nd, rfl⟩⟩; (try first | exact ⟨rfl, _, World.drewN_drewN _ _ _⟩ | exact ⟨rfl, _, Eq.trans (World.drewN_drewN _ _ _) (congrArg (World.drewN _) (Nat.add_assoc _ _ _))⟩)))
             repeat (go_quiet (first | (go_at_call 27; (with_reducible refine (cowrieref01_Name.calls k2 ((rd_T53 bz bA).f0) true _ A22.out).mono ?_); rintro e w' ⟨rfl, ⟨nd, rfl⟩⟩; (try first | exact ⟨rfl, _, World.drewN_drewN _ _ _⟩ | exact ⟨rfl, _, Eq.trans (World.drewN_drewN _ _ _) (congrArg (World.drewN _) (Nat.add_assoc _ _ _))⟩)) | (go_at_call 28; (with_reducible refine (cowrieref20_text.calls k2 ((rd_T53 bz bA).f1) bP _ A24.out).mono ?_); rintro e w' ⟨rfl, ⟨nd, rfl⟩⟩; (try first | exact ⟨rfl, _, World.drewN_drewN _ _ _⟩ | exact ⟨rfl, _, Eq.trans (World.drewN_drewN _ _ _) (congrArg (World.drewN _) (Nat.add_assoc _ _ _))⟩)) | (go_at_call 26; (with_reducible refine (cowrieref20_texts.calls k2 _ _ ((rd_T53 bz bA).f3) bT _ ?bI ?bJ A26.out).mono ?_); (case bI => exact br bN.out (by repeat (first | (with_reducible first | exact HB.out | apply bm | apply bj | apply bn | refine bi ?_ bK.out | refine bi ?_ bM.out) | exact HB.out))); (case bJ => exact bO.out); rintro e w' ⟨rfl, ⟨nd, rfl⟩⟩; (try first | exact ⟨rfl, _, World.drewN_drewN _ _ _⟩ | exact ⟨rfl, _, Eq.trans (World.drewN_drewN _ _ _) (congrArg (World.drewN _) (Nat.add_assoc _ _ _))⟩))); try go_wp2_with (first | (go_at_call 27; (with_reducible refine (cowrieref01_Name.calls k2 ((rd_T53 bz bA).f0) true _ A22.out).mono ?_); rintro e w' ⟨rfl, ⟨nd, rfl⟩⟩; (try first | exact ⟨rfl, _, World.drewN_drewN _ _ _⟩ | exact ⟨rfl, _, Eq.trans (World.drewN_drewN _ _ _) (congrArg (World.drewN _) (Nat.add_assoc _ _ _))⟩)) | (go_at_call 28; (with_reducible refine (cowrieref20_text.calls k2 ((rd_T53 bz bA).f1) bP _ A24.out).mono ?_); rintro e w' ⟨rfl, ⟨nd, rfl⟩⟩; (try first | exact ⟨rfl, _, World.drewN_drewN _ _ _⟩ | exact ⟨rfl, _, Eq.trans (World.drewN_drewN _ _ _) (congrArg (World.drewN _) (Nat.add_assoc _ _ _))⟩)) | (go_at_call 26; (with_reducible refine (cowrieref20_texts.calls k2 _ _ ((rd_T53 bz bA).f3) bT _ ?bI ?bJ A26.out).mono ?_); (case bI => exact br bN.out (by repeat (first | (with_reducible first | exact HB.out | apply bm | apply bj | apply bn | refine bi ?_ bK.out | refine bi ?_ bM.out) | exact HB.out))); (case bJ => exact bO.out); rintro e w' ⟨rfl, ⟨nd, rfl⟩⟩; (try first | exact ⟨rfl, _, World.drewN_drewN _ _ _⟩ | exact ⟨rfl, _, Eq.trans (World.drewN_drewN _ _ _) (congrArg (World.drewN _) (Nat.add_assoc _ _ _))⟩))))
             go_meet
             case rel => exact ⟨_, (true), (by first | rfl | (simp; done) | (simp [*]; done)), H', ⟨by have := HJ1.out; have := HK2.out; first | omega | exact Nat.le_refl _⟩, ⟨by (with_reducible repeat (first | refine a4 ?_ _ | refine bh ?_ | refine a5 ?_ _)); refine blk_far ?_ bC.out _; (with_reducible repeat (first | refine a4 ?_ _ | refine bh ?_ | refine a5 ?_ _)); refine blk_far ?_ bC.out _; (with_reducible repeat (first | refine a4 ?_ _ | refine bh ?_ | refine a5 ?_ _)); refine blk_far ?_ bC.out _; (with_reducible repeat (first | refine a4 ?_ _ | refine bh ?_ | refine a5 ?_ _)); refine blk_far ?_ bC.out _; (with_reducible repeat (first | refine a4 ?_ _ | refine bh ?_ | refine a5 ?_ _)); exact bD.out⟩, ⟨by (with_reducible repeat (first | refine a4 ?_ _ | refine bh ?_ | refine a5 ?_ _)); refine blk_put (cs := #[.string ((rd_T53 bz bA).f0), .string ((rd_T53 bz bA).f1), .bool ((rd_T53 bz bA).f2), .slice none 0 0]) ?_ 3 _ rfl; (with_reducible repeat (first | refine a4 ?_ _ | refine bh ?_ | refine a5 ?_ _)); refine blk_put (cs := #[.string ((rd_T53 bz bA).f0), .string ((rd_T53 bz bA).f1), .bool false, .slice none 0 0]) ?_ 2 _ rfl; (with_reducible repeat (first | refine a4 ?_ _ | refine bh ?_ | refine a5 ?_ _)); refine blk_put (cs := #[.string ((rd_T53 bz bA).f0), .string (⟨#[]⟩ : ByteArray), .bool false, .slice none 0 0]) ?_ 1 _ rfl; (with_reducible repeat (first | refine a4 ?_ _ | refine bh ?_ | refine a5 ?_ _)); refine blk_put (cs := #[.string (⟨#[]⟩ : ByteArray), .string (⟨#[]⟩ : ByteArray), .bool false, .slice none 0 0]) ?_ 0 _ rfl; (with_reducible repeat (first | refine a4 ?_ _ | refine bh ?_ | refine a5 ?_ _)); exact bB.out⟩, ⟨by repeat (first | (with_reducible first | exact HB.out | apply bm | apply bj | apply bn | refine bi ?_ bK.out | refine bi ?_ bM.out) | exact HB.out)⟩⟩
            ·
             rw [if_neg c28] at H
             have c28b0 : decide (1024 < (((rd_T53 bz bA).f3).length : Int)) = false := decide_eq_false c28
             have c28b1 : decide (1024 < ((rd_T53 bz bA).f3).length) = false := decide_eq_false (by omega)
             clear c28
             obtain ⟨bq31, hbq31⟩ : ∃ b_ : Bool, b_ = ((rd_T53 bz bA).f2) := ⟨_, rfl⟩
             replace H : (if bq31 = true then (if ((rd_T53 bz bA).f1).toList = ([] : List UInt8) then (if (bq31 = true) then (cowrieref20_Check.j2 k2 bA false bz bE bG ((rd_T53 bz bA).f0) ((rd_T53 bz bA).f1) bq31 ((rd_T53 bz bA).f3)) else (cowrieref20_Check.j2 k2 bA (decide ((((rd_T53 bz bA).f3).length : Int) > 0)) bz bE bG ((rd_T53 bz bA).f0) ((rd_T53 bz bA).f1) bq31 ((rd_T53 bz bA).f3))) else (cowrieref20_Check.j2 k2 bA true bz bE bG ((rd_T53 bz bA).f0) ((rd_T53 bz bA).f1) bq31 ((rd_T53 bz bA).f3))) else (if (bq31 = true) then (cowrieref20_Check.j2 k2 bA false bz bE bG ((rd_T53 bz bA).f0) ((rd_T53 bz bA).f1) bq31 ((rd_T53 bz bA).f3)) else (cowrieref20_Check.j2 k2 bA (decide ((((rd_T53 bz bA).f3).length : Int) > 0)) bz bE bG ((rd_T53 bz bA).f0) ((rd_T53 bz bA).f1) bq31 ((rd_T53 bz bA).f3)))) = some r := by rw [← hbq31] at H; exact H
             have Nbq31 := bu hbq31
             clear hbq31
             by_cases c32 : bq31 = true
             ·
              subst c32
              have nb_ := Nbq31.out.symm
              have H1 : (if ((rd_T53 bz bA).f1).toList = ([] : List UInt8) then (if (true = true) then (cowrieref20_Check.j2 k2 bA false bz bE bG ((rd_T53 bz bA).f0) ((rd_T53 bz bA).f1) true ((rd_T53 bz bA).f3)) else (cowrieref20_Check.j2 k2 bA (decide ((((rd_T53 bz bA).f3).length : Int) > 0)) bz bE bG ((rd_T53 bz bA).f0) ((rd_T53 bz bA).f1) true ((rd_T53 bz bA).f3))) else (cowrieref20_Check.j2 k2 bA true bz bE bG ((rd_T53 bz bA).f0) ((rd_T53 bz bA).f1) true ((rd_T53 bz bA).f3))) = some r := by rw [if_pos rfl] at H; exact H
              clear H
              have H := H1
              clear H1
              by_cases c33 : ((rd_T53 bz bA).f1).toList = ([] : List UInt8)
              ·
               rw [if_pos c33] at H
               have c33b0 : (((rd_T53 bz bA).f1).toList == ([] : List UInt8)) = true := beq_iff_eq.mpr c33
               have c33b1 : (((rd_T53 bz bA).f1).toList != ([] : List UInt8)) = false := bne_eq_false_iff_eq.mpr c33
               clear c33
               by_cases c34 : (true = true)
               ·
                clear c34
                have H1 : (cowrieref20_Check.j2 k2 bA false bz bE bG ((rd_T53 bz bA).f0) ((rd_T53 bz bA).f1) true ((rd_T53 bz bA).f3)) = some r := by rw [if_pos rfl] at H; exact H
                clear H
                have H := H1
                clear H1
                have H' := bu H
                clear H
                have hnb35 := bL.out
                have hnc35 := bC.out
                have hcz36_0 : bV.cell? ⟨bF, 0, none⟩ = some (.string (⟨#[]⟩ : ByteArray)) := (bo bB.out 0).trans rfl
                have hcz36_1 : bV.cell? ⟨bF, 1, none⟩ = some (.string (⟨#[]⟩ : ByteArray)) := (bo bB.out 1).trans rfl
                have hcz36_2 : bV.cell? ⟨bF, 2, none⟩ = some (.bool false) := (bo bB.out 2).trans rfl
                have hcz36_3 : bV.cell? ⟨bF, 3, none⟩ = some (.slice none 0 0) := (bo bB.out 3).trans rfl
                have hfz36_0 := bk bB.out 0
                have hfz36_1 := bk bB.out 1
                have hfz36_2 := bk bB.out 2
                have hfz36_3 := bk bB.out 3
                go_wp2_with (first | (go_at_call 27; (with_reducible refine (cowrieref01_Name.calls k2 ((rd_T53 bz bA).f0) true _ A22.out).mono ?_); rintro e w' ⟨rfl, ⟨nd, rfl⟩⟩; (try first | exact ⟨rfl, _, World.drewN_drewN _ _ _⟩ | exact ⟨rfl, _, Eq.trans (World.drewN_drewN _ _ _) (congrArg (World.drewN _) (Nat.add_assoc _ _ _))⟩)) | (go_at_call 28; (with_reducible refine (cowrieref20_text.calls k2 ((rd_T53 bz bA).f1) bP _ A24.out).mono ?_); rintro e w' ⟨rfl, ⟨nd, rfl⟩⟩; (try first | exact ⟨rfl, _, World.drewN_drewN _ _ _⟩ | exact ⟨rfl, _, Eq.trans (World.drewN_drewN _ _ _) (congrArg (World.drewN _) (Nat.add_assoc _ _ _))⟩)) | (go_at_call 26; (with_reducible refine (cowrieref20_texts.calls k2 _ _ ((rd_T53 bz bA).f3) bT _ ?bI ?bJ A26.out).mono ?_); (case bI => exact br bN.out (by repeat (first | (with_reducible first | exact HB.out | apply bm | apply bj | apply bn | refine bi ?_ bK.out | refine bi ?_ bM.out) | exact HB.out))); (case bJ => exact bO.out); rintro e w' ⟨rfl, ⟨nd, rfl⟩⟩; (try first | exact ⟨rfl, _, World.drewN_drewN _ _ _⟩ | exact ⟨rfl, _, Eq.trans (World.drewN_drewN _ _ _) (congrArg (World.drewN _) (Nat.add_assoc _ _ _))⟩)))
                repeat (go_quiet (first | (go_at_call 27; (with_reducible refine (cowrieref01_Name.calls k2 ((rd_T53 bz bA).f0) true _ A22.out).mono ?_); rintro e w' ⟨rfl, ⟨nd, rfl⟩⟩; (try first | exact ⟨rfl, _, World.drewN_drewN _ _ _⟩ | exact ⟨rfl, _, Eq.trans (World.drewN_drewN _ _ _) (congrArg (World.drewN _) (Nat.add_assoc _ _ _))⟩)) | (go_at_call 28; (with_reducible refine (cowrieref20_text.calls k2 ((rd_T53 bz bA).f1) bP _ A24.out).mono ?_); rintro e w' ⟨rfl, ⟨nd, rfl⟩⟩; (try first | exact ⟨rfl, _, World.drewN_drewN _ _ _⟩ | exact ⟨rfl, _, Eq.trans (World.drewN_drewN _ _ _) (congrArg (World.drewN _) (Nat.add_assoc _ _ _))⟩)) | (go_at_call 26; (with_reducible refine (cowrieref20_texts.calls k2 _ _ ((rd_T53 bz bA).f3) bT _ ?bI ?bJ A26.out).mono ?_); (case bI => exact br bN.out (by repeat (first | (with_reducible first | exact HB.out | apply bm | apply bj | apply bn | refine bi ?_ bK.out | refine bi ?_ bM.out) | exact HB.out))); (case bJ => exact bO.out); rintro e w' ⟨rfl, ⟨nd, rfl⟩⟩; (try first | exact ⟨rfl, _, World.drewN_drewN _ _ _⟩ | exact ⟨rfl, _, Eq.trans (World.drewN_drewN _ _ _) (congrArg (World.drewN _) (Nat.add_assoc _ _ _))⟩))); try go_wp2_with (first | (go_at_call 27; (with_reducible refine (cowrieref01_Name.calls k2 ((rd_T53 bz bA).f0) true _ A22.out).mono ?_); rintro e w' ⟨rfl, ⟨nd, rfl⟩⟩; (try first | exact ⟨rfl, _, World.drewN_drewN _ _ _⟩ | exact ⟨rfl, _, Eq.trans (World.drewN_drewN _ _ _) (congrArg (World.drewN _) (Nat.add_assoc _ _ _))⟩)) | (go_at_call 28; (with_reducible refine (cowrieref20_text.calls k2 ((rd_T53 bz bA).f1) bP _ A24.out).mono ?_); rintro e w' ⟨rfl, ⟨nd, rfl⟩⟩; (try first | exact ⟨rfl, _, World.drewN_drewN _ _ _⟩ | exact ⟨rfl, _, Eq.trans (World.drewN_drewN _ _ _) (congrArg (World.drewN _) (Nat.add_assoc _ _ _))⟩)) | (go_at_call 26; (with_reducible refine (cowrieref20_texts.calls k2 _ _ ((rd_T53 bz bA).f3) bT _ ?bI ?bJ A26.out).mono ?_); (case bI => exact br bN.out (by repeat (first | (with_reducible first | exact HB.out | apply bm | apply bj | apply bn | refine bi ?_ bK.out | refine bi ?_ bM.out) | exact HB.out))); (case bJ => exact bO.out); rintro e w' ⟨rfl, ⟨nd, rfl⟩⟩; (try first | exact ⟨rfl, _, World.drewN_drewN _ _ _⟩ | exact ⟨rfl, _, Eq.trans (World.drewN_drewN _ _ _) (congrArg (World.drewN _) (Nat.add_assoc _ _ _))⟩))))
                go_meet
                case rel => (try rw [← Nbq31.out]); exact ⟨_, (false), (by first | rfl | (simp; done) | (simp [*]; done)), H', ⟨by have := HJ1.out; have := HK2.out; first | omega | exact Nat.le_refl _⟩, ⟨by (with_reducible repeat (first | refine a4 ?_ _ | refine bh ?_ | refine a5 ?_ _)); refine blk_far ?_ bC.out _; (with_reducible repeat (first | refine a4 ?_ _ | refine bh ?_ | refine a5 ?_ _)); refine blk_far ?_ bC.out _; (with_reducible repeat (first | refine a4 ?_ _ | refine bh ?_ | refine a5 ?_ _)); refine blk_far ?_ bC.out _; (with_reducible repeat (first | refine a4 ?_ _ | refine bh ?_ | refine a5 ?_ _)); refine blk_far ?_ bC.out _; (with_reducible repeat (first | refine a4 ?_ _ | refine bh ?_ | refine a5 ?_ _)); exact bD.out⟩, ⟨by (with_reducible repeat (first | refine a4 ?_ _ | refine bh ?_ | refine a5 ?_ _)); refine blk_put (cs := #[.string ((rd_T53 bz bA).f0), .string ((rd_T53 bz bA).f1), .bool (true), .slice none 0 0]) ?_ 3 _ rfl; (with_reducible repeat (first | refine a4 ?_ _ | refine bh ?_ | refine a5 ?_ _)); refine blk_put (cs := #[.string ((rd_T53 bz bA).f0), .string ((rd_T53 bz bA).f1), .bool false, .slice none 0 0]) ?_ 2 _ rfl; (with_reducible repeat (first | refine a4 ?_ _ | refine bh ?_ | refine a5 ?_ _)); refine blk_put (cs := #[.string ((rd_T53 bz bA).f0), .string (⟨#[]⟩ : ByteArray), .bool false, .slice none 0 0]) ?_ 1 _ rfl; (with_reducible repeat (first | refine a4 ?_ _ | refine bh ?_ | refine a5 ?_ _)); refine blk_put (cs := #[.string (⟨#[]⟩ : ByteArray), .string (⟨#[]⟩ : ByteArray), .bool false, .slice none 0 0]) ?_ 0 _ rfl; (with_reducible repeat (first | refine a4 ?_ _ | refine bh ?_ | refine a5 ?_ _)); exact bB.out⟩, ⟨by repeat (first | (with_reducible first | exact HB.out | apply bm | apply bj | apply bn | refine bi ?_ bK.out | refine bi ?_ bM.out) | exact HB.out)⟩⟩
               ·
                exact absurd rfl c34
              ·
               rw [if_neg c33] at H
               have c33b0 : (((rd_T53 bz bA).f1).toList == ([] : List UInt8)) = false := beq_eq_false_iff_ne.mpr c33
               have c33b1 : (((rd_T53 bz bA).f1).toList != ([] : List UInt8)) = true := bne_iff_ne.mpr c33
               have H' := bu H
               clear H
               have hnb39 := bL.out
               have hnc39 := bC.out
               have hcz40_0 : bV.cell? ⟨bF, 0, none⟩ = some (.string (⟨#[]⟩ : ByteArray)) := (bo bB.out 0).trans rfl
               have hcz40_1 : bV.cell? ⟨bF, 1, none⟩ = some (.string (⟨#[]⟩ : ByteArray)) := (bo bB.out 1).trans rfl
               have hcz40_2 : bV.cell? ⟨bF, 2, none⟩ = some (.bool false) := (bo bB.out 2).trans rfl
               have hcz40_3 : bV.cell? ⟨bF, 3, none⟩ = some (.slice none 0 0) := (bo bB.out 3).trans rfl
               have hfz40_0 := bk bB.out 0
               have hfz40_1 := bk bB.out 1
               have hfz40_2 := bk bB.out 2
               have hfz40_3 := bk bB.out 3
               go_wp2_with (first | (go_at_call 27; (with_reducible refine (cowrieref01_Name.calls k2 ((rd_T53 bz bA).f0) true _ A22.out).mono ?_); rintro e w' ⟨rfl, ⟨nd, rfl⟩⟩; (try first | exact ⟨rfl, _, World.drewN_drewN _ _ _⟩ | exact ⟨rfl, _, Eq.trans (World.drewN_drewN _ _ _) (congrArg (World.drewN _) (Nat.add_assoc _ _ _))⟩)) | (go_at_call 28; (with_reducible refine (cowrieref20_text.calls k2 ((rd_T53 bz bA).f1) bP _ A24.out).mono ?_); rintro e w' ⟨rfl, ⟨nd, rfl⟩⟩; (try first | exact ⟨rfl, _, World.drewN_drewN _ _ _⟩ | exact ⟨rfl, _, Eq.trans (World.drewN_drewN _ _ _) (congrArg (World.drewN _) (Nat.add_assoc _ _ _))⟩)) | (go_at_call 26; (with_reducible refine (cowrieref20_texts.calls k2 _ _ ((rd_T53 bz bA).f3) bT _ ?bI ?bJ A26.out).mono ?_); (case bI => exact br bN.out (by repeat (first | (with_reducible first | exact HB.out | apply bm | apply bj | apply bn | refine bi ?_ bK.out | refine bi ?_ bM.out) | exact HB.out))); (case bJ => exact bO.out); rintro e w' ⟨rfl, ⟨nd, rfl⟩⟩; (try first | exact ⟨rfl, _, World.drewN_drewN _ _ _⟩ | exact ⟨rfl, _, Eq.trans (World.drewN_drewN _ _ _) (congrArg (World.drewN _) (Nat.add_assoc _ _ _))⟩)))
               repeat (go_quiet (first | (go_at_call 27; (with_reducible refine (cowrieref01_Name.calls k2 ((rd_T53 bz bA).f0) true _ A22.out).mono ?_); rintro e w' ⟨rfl, ⟨nd, rfl⟩⟩; (try first | exact ⟨rfl, _, World.drewN_drewN _ _ _⟩ | exact ⟨rfl, _, Eq.trans (World.drewN_drewN _ _ _) (congrArg (World.drewN _) (Nat.add_assoc _ _ _))⟩)) | (go_at_call 28; (with_reducible refine (cowrieref20_text.calls k2 ((rd_T53 bz bA).f1) bP _ A24.out).mono ?_); rintro e w' ⟨rfl, ⟨nd, rfl⟩⟩; (try first | exact ⟨rfl, _, World.drewN_drewN _ _ _⟩ | exact ⟨rfl, _, Eq.trans (World.drewN_drewN _ _ _) (congrArg (World.drewN _) (Nat.add_assoc _ _ _))⟩)) | (go_at_call 26; (with_reducible refine (cowrieref20_texts.calls k2 _ _ ((rd_T53 bz bA).f3) bT _ ?bI ?bJ A26.out).mono ?_); (case bI => exact br bN.out (by repeat (first | (with_reducible first | exact HB.out | apply bm | apply bj | apply bn | refine bi ?_ bK.out | refine bi ?_ bM.out) | exact HB.out))); (case bJ => exact bO.out); rintro e w' ⟨rfl, ⟨nd, rfl⟩⟩; (try first | exact ⟨rfl, _, World.drewN_drewN _ _ _⟩ | exact ⟨rfl, _, Eq.trans (World.drewN_drewN _ _ _) (congrArg (World.drewN _) (Nat.add_assoc _ _ _))⟩))); try go_wp2_with (first | (go_at_call 27; (with_reducible refine (cowrieref01_Name.calls k2 ((rd_T53 bz bA).f0) true _ A22.out).mono ?_); rintro e w' ⟨rfl, ⟨nd, rfl⟩⟩; (try first | exact ⟨rfl, _, World.drewN_drewN _ _ _⟩ | exact ⟨rfl, _, Eq.trans (World.drewN_drewN _ _ _) (congrArg (World.drewN _) (Nat.add_assoc _ _ _))⟩)) | (go_at_call 28; (with_reducible refine (cowrieref20_text.calls k2 ((rd_T53 bz bA).f1) bP _ A24.out).mono ?_); rintro e w' ⟨rfl, ⟨nd, rfl⟩⟩; (try first | exact ⟨rfl, _, World.drewN_drewN _ _ _⟩ | exact ⟨rfl, _, Eq.trans (World.drewN_drewN _ _ _) (congrArg (World.drewN _) (Nat.add_assoc _ _ _))⟩)) | (go_at_call 26; (with_reducible refine (cowrieref20_texts.calls k2 _ _ ((rd_T53 bz bA).f3) bT _ ?bI ?bJ A26.out).mono ?_); (case bI => exact br bN.out (by repeat (first | (with_reducible first | exact HB.out | apply bm | apply bj | apply bn | refine bi ?_ bK.out | refine bi ?_ bM.out) | exact HB.out))); (case bJ => exact bO.out); rintro e w' ⟨rfl, ⟨nd, rfl⟩⟩; (try first | exact ⟨rfl, _, World.drewN_drewN _ _ _⟩ | exact ⟨rfl, _, Eq.trans (World.drewN_drewN _ _ _) (congrArg (World.drewN _) (Nat.add_assoc _ _ _))⟩))))
               go_meet
               case rel => (try rw [← Nbq31.out]); exact ⟨_, (true), (by first | rfl | (simp; done) | (simp [*]; done)), H', ⟨by have := HJ1.out; have := HK2.out; first | omega | exact Nat.le_refl _⟩, ⟨by (with_reducible repeat (first | refine a4 ?_ _ | refine bh ?_ | refine a5 ?_ _)); refine blk_far ?_ bC.out _; (with_reducible repeat (first | refine a4 ?_ _ | refine bh ?_ | refine a5 ?_ _)); refine blk_far ?_ bC.out _; (with_reducible repeat (first | refine a4 ?_ _ | refine bh ?_ | refine a5 ?_ _)); refine blk_far ?_ bC.out _; (with_reducible repeat (first | refine a4 ?_ _ | refine bh ?_ | refine a5 ?_ _)); refine blk_far ?_ bC.out _; (with_reducible repeat (first | refine a4 ?_ _ | refine bh ?_ | refine a5 ?_ _)); exact bD.out⟩, ⟨by (with_reducible repeat (first | refine a4 ?_ _ | refine bh ?_ | refine a5 ?_ _)); refine blk_put (cs := #[.string ((rd_T53 bz bA).f0), .string ((rd_T53 bz bA).f1), .bool (true), .slice none 0 0]) ?_ 3 _ rfl; (with_reducible repeat (first | refine a4 ?_ _ | refine bh ?_ | refine a5 ?_ _)); refine blk_put (cs := #[.string ((rd_T53 bz bA).f0), .string ((rd_T53 bz bA).f1), .bool false, .slice none 0 0]) ?_ 2 _ rfl; (with_reducible repeat (first | refine a4 ?_ _ | refine bh ?_ | refine a5 ?_ _)); refine blk_put (cs := #[.string ((rd_T53 bz bA).f0), .string (⟨#[]⟩ : ByteArray), .bool false, .slice none 0 0]) ?_ 1 _ rfl; (with_reducible repeat (first | refine a4 ?_ _ | refine bh ?_ | refine a5 ?_ _)); refine blk_put (cs := #[.string (⟨#[]⟩ : ByteArray), .string (⟨#[]⟩ : ByteArray), .bool false, .slice none 0 0]) ?_ 0 _ rfl; (with_reducible repeat (first | refine a4 ?_ _ | refine bh ?_ | refine a5 ?_ _)); exact bB.out⟩, ⟨by repeat (first | (with_reducible first | exact HB.out | apply bm | apply bj | apply bn | refine bi ?_ bK.out | refine bi ?_ bM.out) | exact HB.out)⟩⟩
             ·
              replace c32 := Bool.eq_false_iff.mpr c32
              subst c32
              have nb_ := Nbq31.out.symm
              have H1 : (if (false = true) then (cowrieref20_Check.j2 k2 bA false bz bE bG ((rd_T53 bz bA).f0) ((rd_T53 bz bA).f1) false ((rd_T53 bz bA).f3)) else (cowrieref20_Check.j2 k2 bA (decide ((((rd_T53 bz bA).f3).length : Int) > 0)) bz bE bG ((rd_T53 bz bA).f0) ((rd_T53 bz bA).f1) false ((rd_T53 bz bA).f3))) = some r := by rw [if_neg (show ¬ (false = true) by decide)] at H; exact H
              clear H
              have H := H1
              clear H1
              by_cases c41 : (false = true)
              ·
               exact absurd c41 (by decide)
              ·
               clear c41
               have H1 : (cowrieref20_Check.j2 k2 bA (decide ((((rd_T53 bz bA).f3).length : Int) > 0)) bz bE bG ((rd_T53 bz bA).f0) ((rd_T53 bz bA).f1) false ((rd_T53 bz bA).f3)) = some r := by rw [if_neg (show ¬ (false = true) by decide)] at H; exact H
               clear H
               have H := H1
               clear H1
               have H' := bu H
               clear H
               have hnb44 := bL.out
               have hnc44 := bC.out
               have hcz45_0 : bV.cell? ⟨bF, 0, none⟩ = some (.string (⟨#[]⟩ : ByteArray)) := (bo bB.out 0).trans rfl
               have hcz45_1 : bV.cell? ⟨bF, 1, none⟩ = some (.string (⟨#[]⟩ : ByteArray)) := (bo bB.out 1).trans rfl
               have hcz45_2 : bV.cell? ⟨bF, 2, none⟩ = some (.bool false) := (bo bB.out 2).trans rfl
               have hcz45_3 : bV.cell? ⟨bF, 3, none⟩ = some (.slice none 0 0) := (bo bB.out 3).trans rfl
               have hfz45_0 := bk bB.out 0
               have hfz45_1 := bk bB.out 1
               have hfz45_2 := bk bB.out 2
               have hfz45_3 := bk bB.out 3
               go_wp2_with (first | (go_at_call 27; (with_reducible refine (cowrieref01_Name.calls k2 ((rd_T53 bz bA).f0) true _ A22.out).mono ?_); rintro e w' ⟨rfl, ⟨nd, rfl⟩⟩; (try first | exact ⟨rfl, _, World.drewN_drewN _ _ _⟩ | exact ⟨rfl, _, Eq.trans (World.drewN_drewN _ _ _) (congrArg (World.drewN _) (Nat.add_assoc _ _ _))⟩)) | (go_at_call 28; (with_reducible refine (cowrieref20_text.calls k2 ((rd_T53 bz bA).f1) bP _ A24.out).mono ?_); rintro e w' ⟨rfl, ⟨nd, rfl⟩⟩; (try first | exact ⟨rfl, _, World.drewN_drewN _ _ _⟩ | exact ⟨rfl, _, Eq.trans (World.drewN_drewN _ _ _) (congrArg (World.drewN _) (Nat.add_assoc _ _ _))⟩)) | (go_at_call 26; (with_reducible refine (cowrieref20_texts.calls k2 _ _ ((rd_T53 bz bA).f3) bT _ ?bI ?bJ A26.out).mono ?_); (case bI => exact br bN.out (by repeat (first | (with_reducible first | exact HB.out | apply bm | apply bj | apply bn | refine bi ?_ bK.out | refine bi ?_ bM.out) | exact HB.out))); (case bJ => exact bO.out); rintro e w' ⟨rfl, ⟨nd, rfl⟩⟩; (try first | exact ⟨rfl, _, World.drewN_drewN _ _ _⟩ | exact ⟨rfl, _, Eq.trans (World.drewN_drewN _ _ _) (congrArg (World.drewN _) (Nat.add_assoc _ _ _))⟩)))
               repeat (go_quiet (first | (go_at_call 27; (with_reducible refine (cowrieref01_Name.calls k2 ((rd_T53 bz bA).f0) true _ A22.out).mono ?_); rintro e w' ⟨rfl, ⟨nd, rfl⟩⟩; (try first | exact ⟨rfl, _, World.drewN_drewN _ _ _⟩ | exact ⟨rfl, _, Eq.trans (World.drewN_drewN _ _ _) (congrArg (World.drewN _) (Nat.add_assoc _ _ _))⟩)) | (go_at_call 28; (with_reducible refine (cowrieref20_text.calls k2 ((rd_T53 bz bA).f1) bP _ A24.out).mono ?_); rintro e w' ⟨rfl, ⟨nd, rfl⟩⟩; (try first | exact ⟨rfl, _, World.drewN_drewN _ _ _⟩ | exact ⟨rfl, _, Eq.trans (World.drewN_drewN _ _ _) (congrArg (World.drewN _) (Nat.add_assoc _ _ _))⟩)) | (go_at_call 26; (with_reducible refine (cowrieref20_texts.calls k2 _ _ ((rd_T53 bz bA).f3) bT _ ?bI ?bJ A26.out).mono ?_); (case bI => exact br bN.out (by repeat (first | (with_reducible first | exact HB.out | apply bm | apply bj | apply bn | refine bi ?_ bK.out | refine bi ?_ bM.out) | exact HB.out))); (case bJ => exact bO.out); rintro e w' ⟨rfl, ⟨nd, rfl⟩⟩; (try first | exact ⟨rfl, _, World.drewN_drewN _ _ _⟩ | exact ⟨rfl, _, Eq.trans (World.drewN_drewN _ _ _) (congrArg (World.drewN _) (Nat.add_assoc _ _ _))⟩))); try go_wp2_with (first | (go_at_call 27; (with_reducible refine (cowrieref01_Name.calls k2 ((rd_T53 bz bA).f0) true _ A22.out).mono ?_); rintro e w' ⟨rfl, ⟨nd, rfl⟩⟩; (try first | exact ⟨rfl, _, World.drewN_drewN _ _ _⟩ | exact ⟨rfl, _, Eq.trans (World.drewN_drewN _ _ _) (congrArg (World.drewN _) (Nat.add_assoc _ _ _))⟩)) | (go_at_call 28; (with_reducible refine (cowrieref20_text.calls k2 ((rd_T53 bz bA).f1) bP _ A24.out).mono ?_); rintro e w' ⟨rfl, ⟨nd, rfl⟩⟩; (try first | exact ⟨rfl, _, World.drewN_drewN _ _ _⟩ | exact ⟨rfl, _, Eq.trans (World.drewN_drewN _ _ _) (congrArg (World.drewN _) (Nat.add_assoc _ _ _))⟩)) | (go_at_call 26; (with_reducible refine (cowrieref20_texts.calls k2 _ _ ((rd_T53 bz bA).f3) bT _ ?bI ?bJ A26.out).mono ?_); (case bI => exact br bN.out (by repeat (first | (with_reducible first | exact HB.out | apply bm | apply bj | apply bn | refine bi ?_ bK.out | refine bi ?_ bM.out) | exact HB.out))); (case bJ => exact bO.out); rintro e w' ⟨rfl, ⟨nd, rfl⟩⟩; (try first | exact ⟨rfl, _, World.drewN_drewN _ _ _⟩ | exact ⟨rfl, _, Eq.trans (World.drewN_drewN _ _ _) (congrArg (World.drewN _) (Nat.add_assoc _ _ _))⟩))))
               go_meet
               case rel => (try rw [← Nbq31.out]); exact ⟨_, (decide ((((rd_T53 bz bA).f3).length : Int) > 0)), (by first | rfl | (simp; done) | (simp [*]; done)), H', ⟨by have := HJ1.out; have := HK2.out; first | omega | exact Nat.le_refl _⟩, ⟨by (with_reducible repeat (first | refine a4 ?_ _ | refine bh ?_ | refine a5 ?_ _)); refine blk_far ?_ bC.out _; (with_reducible repeat (first | refine a4 ?_ _ | refine bh ?_ | refine a5 ?_ _)); refine blk_far ?_ bC.out _; (with_reducible repeat (first | refine a4 ?_ _ | refine bh ?_ | refine a5 ?_ _)); refine blk_far ?_ bC.out _; (with_reducible repeat (first | refine a4 ?_ _ | refine bh ?_ | refine a5 ?_ _)); refine blk_far ?_ bC.out _; (with_reducible repeat (first | refine a4 ?_ _ | refine bh ?_ | refine a5 ?_ _)); exact bD.out⟩, ⟨by (with_reducible repeat (first | refine a4 ?_ _ | refine bh ?_ | refine a5 ?_ _)); refine blk_put (cs := #[.string ((rd_T53 bz bA).f0), .string ((rd_T53 bz bA).f1), .bool (false), .slice none 0 0]) ?_ 3 _ rfl; (with_reducible repeat (first | refine a4 ?_ _ | refine bh ?_ | refine a5 ?_ _)); refine blk_put (cs := #[.string ((rd_T53 bz bA).f0), .string ((rd_T53 bz bA).f1), .bool false, .slice none 0 0]) ?_ 2 _ rfl; (with_reducible repeat (first | refine a4 ?_ _ | refine bh ?_ | refine a5 ?_ _)); refine blk_put (cs := #[.string ((rd_T53 bz bA).f0), .string (⟨#[]⟩ : ByteArray), .bool false, .slice none 0 0]) ?_ 1 _ rfl; (with_reducible repeat (first | refine a4 ?_ _ | refine bh ?_ | refine a5 ?_ _)); refine blk_put (cs := #[.string (⟨#[]⟩ : ByteArray), .string (⟨#[]⟩ : ByteArray), .bool false, .slice none 0 0]) ?_ 0 _ rfl; (with_reducible repeat (first | refine a4 ?_ _ | refine bh ?_ | refine a5 ?_ _)); exact bB.out⟩, ⟨by repeat (first | (with_reducible first | exact HB.out | apply bm | apply bj | apply bn | refine bi ?_ bK.out | refine bi ?_ bM.out) | exact HB.out)⟩⟩
           ·
            rw [if_neg c27] at H
            have c27b0 : (bT == 0) = false := beq_eq_false_iff_ne.mpr c27
            have c27b1 : (bT != 0) = true := bne_iff_ne.mpr c27
            have H' := bu H
            clear H
            have hnb46 := bL.out
            have hnc46 := bC.out
            have hcz47_0 : bV.cell? ⟨bF, 0, none⟩ = some (.string (⟨#[]⟩ : ByteArray)) := (bo bB.out 0).trans rfl
            have hcz47_1 : bV.cell? ⟨bF, 1, none⟩ = some (.string (⟨#[]⟩ : ByteArray)) := (bo bB.out 1).trans rfl
            have hcz47_2 : bV.cell? ⟨bF, 2, none⟩ = some (.bool false) := (bo bB.out 2).trans rfl
            have hcz47_3 : bV.cell? ⟨bF, 3, none⟩ = some (.slice none 0 0) := (bo bB.out 3).trans rfl
            have hfz47_0 := bk bB.out 0
            have hfz47_1 := bk bB.out 1
            have hfz47_2 := bk bB.out 2
            have hfz47_3 := bk bB.out 3
            go_wp2_with (first | (go_at_call 27; (with_reducible refine (cowrieref01_Name.calls k2 ((rd_T53 bz bA).f0) true _ A22.out).mono ?_); rintro e w' ⟨rfl, ⟨nd, rfl⟩⟩; (try first | exact ⟨rfl, _, World.drewN_drewN _ _ _⟩ | exact ⟨rfl, _, Eq.trans (World.drewN_drewN _ _ _) (congrArg (World.drewN _) (Nat.add_assoc _ _ _))⟩)) | (go_at_call 28; (with_reducible refine (cowrieref20_text.calls k2 ((rd_T53 bz bA).f1) bP _ A24.out).mono ?_); rintro e w' ⟨rfl, ⟨nd, rfl⟩⟩; (try first | exact ⟨rfl, _, World.drewN_drewN _ _ _⟩ | exact ⟨rfl, _, Eq.trans (World.drewN_drewN _ _ _) (congrArg (World.drewN _) (Nat.add_assoc _ _ _))⟩)) | (go_at_call 26; (with_reducible refine (cowrieref20_texts.calls k2 _ _ ((rd_T53 bz bA).f3) bT _ ?bI ?bJ A26.out).mono ?_); (case bI => exact br bN.out (by repeat (first | (with_reducible first | exact HB.out | apply bm | apply bj | apply bn | refine bi ?_ bK.out | refine bi ?_ bM.out) | exact HB.out))); (case bJ => exact bO.out); rintro e w' ⟨rfl, ⟨nd, rfl⟩⟩; (try first | exact ⟨rfl, _, World.drewN_drewN _ _ _⟩ | exact ⟨rfl, _, Eq.trans (World.drewN_drewN _ _ _) (congrArg (World.drewN _) (Nat.add_assoc _ _ _))⟩)))
            repeat (go_quiet (first | (go_at_call 27; (with_reducible refine (cowrieref01_Name.calls k2 ((rd_T53 bz bA).f0) true _ A22.out).mono ?_); rintro e w' ⟨rfl, ⟨nd, rfl⟩⟩; (try first | exact ⟨rfl, _, World.drewN_drewN _ _ _⟩ | exact ⟨rfl, _, Eq.trans (World.drewN_drewN _ _ _) (congrArg (World.drewN _) (Nat.add_assoc _ _ _))⟩)) | (go_at_call 28; (with_reducible refine (cowrieref20_text.calls k2 ((rd_T53 bz bA).f1) bP _ A24.out).mono ?_); rintro e w' ⟨rfl, ⟨nd, rfl⟩⟩; (try first | exact ⟨rfl, _, World.drewN_drewN _ _ _⟩ | exact ⟨rfl, _, Eq.trans (World.drewN_drewN _ _ _) (congrArg (World.drewN _) (Nat.add_assoc _ _ _))⟩)) | (go_at_call 26; (with_reducible refine (cowrieref20_texts.calls k2 _ _ ((rd_T53 bz bA).f3) bT _ ?bI ?bJ A26.out).mono ?_); (case bI => exact br bN.out (by repeat (first | (with_reducible first | exact HB.out | apply bm | apply bj | apply bn | refine bi ?_ bK.out | refine bi ?_ bM.out) | exact HB.out))); (case bJ => exact bO.out); rintro e w' ⟨rfl, ⟨nd, rfl⟩⟩; (try first | exact ⟨rfl, _, World.drewN_drewN _ _ _⟩ | exact ⟨rfl, _, Eq.trans (World.drewN_drewN _ _ _) (congrArg (World.drewN _) (Nat.add_assoc _ _ _))⟩))); try go_wp2_with (first | (go_at_call 27; (with_reducible refine (cowrieref01_Name.calls k2 ((rd_T53 bz bA).f0) true _ A22.out).mono ?_); rintro e w' ⟨rfl, ⟨nd, rfl⟩⟩; (try first | exact ⟨rfl, _, World.drewN_drewN _ _ _⟩ | exact ⟨rfl, _, Eq.trans (World.drewN_drewN _ _ _) (congrArg (World.drewN _) (Nat.add_assoc _ _ _))⟩)) | (go_at_call 28; (with_reducible refine (cowrieref20_text.calls k2 ((rd_T53 bz bA).f1) bP _ A24.out).mono ?_); rintro e w' ⟨rfl, ⟨nd, rfl⟩⟩; (try first | exact ⟨rfl, _, World.drewN_drewN _ _ _⟩ | exact ⟨rfl, _, Eq.trans (World.drewN_drewN _ _ _) (congrArg (World.drewN _) (Nat.add_assoc _ _ _))⟩)) | (go_at_call 26; (with_reducible refine (cowrieref20_texts.calls k2 _ _ ((rd_T53 bz bA).f3) bT _ ?bI ?bJ A26.out).mono ?_); (case bI => exact br bN.out (by repeat (first | (with_reducible first | exact HB.out | apply bm | apply bj | apply bn | refine bi ?_ bK.out | refine bi ?_ bM.out) | exact HB.out))); (case bJ => exact bO.out); rintro e w' ⟨rfl, ⟨nd, rfl⟩⟩; (try first | exact ⟨rfl, _, World.drewN_drewN _ _ _⟩ | exact ⟨rfl, _, Eq.trans (World.drewN_drewN _ _ _) (congrArg (World.drewN _) (Nat.add_assoc _ _ _))⟩))))
            go_meet
            case rel => (try rw [← Nbq31.out]); exact ⟨_, (true), (by first | rfl | (simp; done) | (simp [*]; done)), H', ⟨by have := HJ1.out; have := HK2.out; first | omega | exact Nat.le_refl _⟩, ⟨by (with_reducible repeat (first | refine a4 ?_ _ | refine bh ?_ | refine a5 ?_ _)); refine blk_far ?_ bC.out _; (with_reducible repeat (first | refine a4 ?_ _ | refine bh ?_ | refine a5 ?_ _)); refine blk_far ?_ bC.out _; (with_reducible repeat (first | refine a4 ?_ _ | refine bh ?_ | refine a5 ?_ _)); refine blk_far ?_ bC.out _; (with_reducible repeat (first | refine a4 ?_ _ | refine bh ?_ | refine a5 ?_ _)); refine blk_far ?_ bC.out _; (with_reducible repeat (first | refine a4 ?_ _ | refine bh ?_ | refine a5 ?_ _)); exact bD.out⟩, ⟨by (with_reducible repeat (first | refine a4 ?_ _ | refine bh ?_ | refine a5 ?_ _)); refine blk_put (cs := #[.string ((rd_T53 bz bA).f0), .string ((rd_T53 bz bA).f1), .bool ((rd_T53 bz bA).f2), .slice none 0 0]) ?_ 3 _ rfl; (with_reducible repeat (first | refine a4 ?_ _ | refine bh ?_ | refine a5 ?_ _)); refine blk_put (cs := #[.string ((rd_T53 bz bA).f0), .string ((rd_T53 bz bA).f1), .bool false, .slice none 0 0]) ?_ 2 _ rfl; (with_reducible repeat (first | refine a4 ?_ _ | refine bh ?_ | refine a5 ?_ _)); refine blk_put (cs := #[.string ((rd_T53 bz bA).f0), .string (⟨#[]⟩ : ByteArray), .bool false, .slice none 0 0]) ?_ 1 _ rfl; (with_reducible repeat (first | refine a4 ?_ _ | refine bh ?_ | refine a5 ?_ _)); refine blk_put (cs := #[.string (⟨#[]⟩ : ByteArray), .string (⟨#[]⟩ : ByteArray), .bool false, .slice none 0 0]) ?_ 0 _ rfl; (with_reducible repeat (first | refine a4 ?_ _ | refine bh ?_ | refine a5 ?_ _)); exact bB.out⟩, ⟨by repeat (first | (with_reducible first | exact HB.out | apply bm | apply bj | apply bn | refine bi ?_ bK.out | refine bi ?_ bM.out) | exact HB.out)⟩⟩
          ·
           rw [if_neg c25] at H
           have c25b0 : (bP == 0) = false := beq_eq_false_iff_ne.mpr c25
           have c25b1 : (bP != 0) = true := bne_iff_ne.mpr c25
           (first | rw [c25b0] | (simp only [i64_w, i32_w]; rw [c25b0]) | skip)
           have H' := bu H
           clear H
           have hnb48 := bL.out
           have hnc48 := bC.out
           have hcz49_0 : bV.cell? ⟨bF, 0, none⟩ = some (.string (⟨#[]⟩ : ByteArray)) := (bo bB.out 0).trans rfl
           have hcz49_1 : bV.cell? ⟨bF, 1, none⟩ = some (.string (⟨#[]⟩ : ByteArray)) := (bo bB.out 1).trans rfl
           have hcz49_2 : bV.cell? ⟨bF, 2, none⟩ = some (.bool false) := (bo bB.out 2).trans rfl
           have hcz49_3 : bV.cell? ⟨bF, 3, none⟩ = some (.slice none 0 0) := (bo bB.out 3).trans rfl
           have hfz49_0 := bk bB.out 0
           have hfz49_1 := bk bB.out 1
           have hfz49_2 := bk bB.out 2
           have hfz49_3 := bk bB.out 3
           go_wp2_with (first | (go_at_call 27; (with_reducible refine (cowrieref01_Name.calls k2 ((rd_T53 bz bA).f0) true _ A22.out).mono ?_); rintro e w' ⟨rfl, ⟨nd, rfl⟩⟩; (try first | exact ⟨rfl, _, World.drewN_drewN _ _ _⟩ | exact ⟨rfl, _, Eq.trans (World.drewN_drewN _ _ _) (congrArg (World.drewN _) (Nat.add_assoc _ _ _))⟩)) | (go_at_call 28; (with_reducible refine (cowrieref20_text.calls k2 ((rd_T53 bz bA).f1) bP _ A24.out).mono ?_); rintro e w' ⟨rfl, ⟨nd, rfl⟩⟩; (try first | exact ⟨rfl, _, World.drewN_drewN _ _ _⟩ | exact ⟨rfl, _, Eq.trans (World.drewN_drewN _ _ _) (congrArg (World.drewN _) (Nat.add_assoc _ _ _))⟩)))
           repeat (go_quiet (first | (go_at_call 27; (with_reducible refine (cowrieref01_Name.calls k2 ((rd_T53 bz bA).f0) true _ A22.out).mono ?_); rintro e w' ⟨rfl, ⟨nd, rfl⟩⟩; (try first | exact ⟨rfl, _, World.drewN_drewN _ _ _⟩ | exact ⟨rfl, _, Eq.trans (World.drewN_drewN _ _ _) (congrArg (World.drewN _) (Nat.add_assoc _ _ _))⟩)) | (go_at_call 28; (with_reducible refine (cowrieref20_text.calls k2 ((rd_T53 bz bA).f1) bP _ A24.out).mono ?_); rintro e w' ⟨rfl, ⟨nd, rfl⟩⟩; (try first | exact ⟨rfl, _, World.drewN_drewN _ _ _⟩ | exact ⟨rfl, _, Eq.trans (World.drewN_drewN _ _ _) (congrArg (World.drewN _) (Nat.add_assoc _ _ _))⟩))); try go_wp2_with (first | (go_at_call 27; (with_reducible refine (cowrieref01_Name.calls k2 ((rd_T53 bz bA).f0) true _ A22.out).mono ?_); rintro e w' ⟨rfl, ⟨nd, rfl⟩⟩; (try first | exact ⟨rfl, _, World.drewN_drewN _ _ _⟩ | exact ⟨rfl, _, Eq.trans (World.drewN_drewN _ _ _) (congrArg (World.drewN _) (Nat.add_assoc _ _ _))⟩)) | (go_at_call 28; (with_reducible refine (cowrieref20_text.calls k2 ((rd_T53 bz bA).f1) bP _ A24.out).mono ?_); rintro e w' ⟨rfl, ⟨nd, rfl⟩⟩; (try first | exact ⟨rfl, _, World.drewN_drewN _ _ _⟩ | exact ⟨rfl, _, Eq.trans (World.drewN_drewN _ _ _) (congrArg (World.drewN _) (Nat.add_assoc _ _ _))⟩))))
           go_meet
           case rel => (try rw [← Nbq31.out]); exact ⟨_, (true), (by first | rfl | (simp; done) | (simp [*]; done)), H', ⟨by have := HJ1.out; have := HK2.out; first | omega | exact Nat.le_refl _⟩, ⟨by (with_reducible repeat (first | refine a4 ?_ _ | refine bh ?_ | refine a5 ?_ _)); refine blk_far ?_ bC.out _; (with_reducible repeat (first | refine a4 ?_ _ | refine bh ?_ | refine a5 ?_ _)); refine blk_far ?_ bC.out _; (with_reducible repeat (first | refine a4 ?_ _ | refine bh ?_ | refine a5 ?_ _)); refine blk_far ?_ bC.out _; (with_reducible repeat (first | refine a4 ?_ _ | refine bh ?_ | refine a5 ?_ _)); refine blk_far ?_ bC.out _; (with_reducible repeat (first | refine a4 ?_ _ | refine bh ?_ | refine a5 ?_ _)); exact bD.out⟩, ⟨by (with_reducible repeat (first | refine a4 ?_ _ | refine bh ?_ | refine a5 ?_ _)); refine blk_put (cs := #[.string ((rd_T53 bz bA).f0), .string ((rd_T53 bz bA).f1), .bool ((rd_T53 bz bA).f2), .slice none 0 0]) ?_ 3 _ rfl; (with_reducible repeat (first | refine a4 ?_ _ | refine bh ?_ | refine a5 ?_ _)); refine blk_put (cs := #[.string ((rd_T53 bz bA).f0), .string ((rd_T53 bz bA).f1), .bool false, .slice none 0 0]) ?_ 2 _ rfl; (with_reducible repeat (first | refine a4 ?_ _ | refine bh ?_ | refine a5 ?_ _)); refine blk_put (cs := #[.string ((rd_T53 bz bA).f0), .string (⟨#[]⟩ : ByteArray), .bool false, .slice none 0 0]) ?_ 1 _ rfl; (with_reducible repeat (first | refine a4 ?_ _ | refine bh ?_ | refine a5 ?_ _)); refine blk_put (cs := #[.string (⟨#[]⟩ : ByteArray), .string (⟨#[]⟩ : ByteArray), .bool false, .slice none 0 0]) ?_ 0 _ rfl; (with_reducible repeat (first | refine a4 ?_ _ | refine bh ?_ | refine a5 ?_ _)); exact bB.out⟩, ⟨by repeat (first | (with_reducible first | exact HB.out | apply bm | apply bj | apply bn | refine bi ?_ bK.out | refine bi ?_ bM.out) | exact HB.out)⟩⟩
         ·
          replace c23 := Bool.eq_false_iff.mpr c23
          subst c23
          have H1 : (cowrieref20_Check.j2 k2 bA true bz bE bG ((rd_T53 bz bA).f0) ((rd_T53 bz bA).f1) ((rd_T53 bz bA).f2) ((rd_T53 bz bA).f3)) = some r := by rw [if_neg (show ¬ (false = true) by decide)] at H; exact H
          clear H
          have H := H1
          clear H1
          have H' := bu H
          clear H
          have hnb50 := bL.out
          have hnc50 := bC.out
          have hcz51_0 : bV.cell? ⟨bF, 0, none⟩ = some (.string (⟨#[]⟩ : ByteArray)) := (bo bB.out 0).trans rfl
          have hcz51_1 : bV.cell? ⟨bF, 1, none⟩ = some (.string (⟨#[]⟩ : ByteArray)) := (bo bB.out 1).trans rfl
          have hcz51_2 : bV.cell? ⟨bF, 2, none⟩ = some (.bool false) := (bo bB.out 2).trans rfl
          have hcz51_3 : bV.cell? ⟨bF, 3, none⟩ = some (.slice none 0 0) := (bo bB.out 3).trans rfl
          have hfz51_0 := bk bB.out 0
          have hfz51_1 := bk bB.out 1
          have hfz51_2 := bk bB.out 2
          have hfz51_3 := bk bB.out 3
          go_wp2_with (first | (go_at_call 27; (with_reducible refine (cowrieref01_Name.calls k2 ((rd_T53 bz bA).f0) false _ A22.out).mono ?_); rintro e w' ⟨rfl, ⟨nd, rfl⟩⟩; (try first | exact ⟨rfl, _, World.drewN_drewN _ _ _⟩ | exact ⟨rfl, _, Eq.trans (World.drewN_drewN _ _ _) (congrArg (World.drewN _) (Nat.add_assoc _ _ _))⟩)))
          repeat (go_quiet (first | (go_at_call 27; (with_reducible refine (cowrieref01_Name.calls k2 ((rd_T53 bz bA).f0) false _ A22.out).mono ?_); rintro e w' ⟨rfl, ⟨nd, rfl⟩⟩; (try first | exact ⟨rfl, _, World.drewN_drewN _ _ _⟩ | exact ⟨rfl, _, Eq.trans (World.drewN_drewN _ _ _) (congrArg (World.drewN _) (Nat.add_assoc _ _ _))⟩))); try go_wp2_with (first | (go_at_call 27; (with_reducible refine (cowrieref01_Name.calls k2 ((rd_T53 bz bA).f0) false _ A22.out).mono ?_); rintro e w' ⟨rfl, ⟨nd, rfl⟩⟩; (try first | exact ⟨rfl, _, World.drewN_drewN _ _ _⟩ | exact ⟨rfl, _, Eq.trans (World.drewN_drewN _ _ _) (congrArg (World.drewN _) (Nat.add_assoc _ _ _))⟩))))
          go_meet
          case rel => (try rw [← Nbq31.out]); exact ⟨_, (true), (by first | rfl | (simp; done) | (simp [*]; done)), H', ⟨by have := HJ1.out; have := HK2.out; first | omega | exact Nat.le_refl _⟩, ⟨by (with_reducible repeat (first | refine a4 ?_ _ | refine bh ?_ | refine a5 ?_ _)); refine blk_far ?_ bC.out _; (with_reducible repeat (first | refine a4 ?_ _ | refine bh ?_ | refine a5 ?_ _)); refine blk_far ?_ bC.out _; (with_reducible repeat (first | refine a4 ?_ _ | refine bh ?_ | refine a5 ?_ _)); refine blk_far ?_ bC.out _; (with_reducible repeat (first | refine a4 ?_ _ | refine bh ?_ | refine a5 ?_ _)); refine blk_far ?_ bC.out _; (with_reducible repeat (first | refine a4 ?_ _ | refine bh ?_ | refine a5 ?_ _)); exact bD.out⟩, ⟨by (with_reducible repeat (first | refine a4 ?_ _ | refine bh ?_ | refine a5 ?_ _)); refine blk_put (cs := #[.string ((rd_T53 bz bA).f0), .string ((rd_T53 bz bA).f1), .bool ((rd_T53 bz bA).f2), .slice none 0 0]) ?_ 3 _ rfl; (with_reducible repeat (first | refine a4 ?_ _ | refine bh ?_ | refine a5 ?_ _)); refine blk_put (cs := #[.string ((rd_T53 bz bA).f0), .string ((rd_T53 bz bA).f1), .bool false, .slice none 0 0]) ?_ 2 _ rfl; (with_reducible repeat (first | refine a4 ?_ _ | refine bh ?_ | refine a5 ?_ _)); refine blk_put (cs := #[.string ((rd_T53 bz bA).f0), .string (⟨#[]⟩ : ByteArray), .bool false, .slice none 0 0]) ?_ 1 _ rfl; (with_reducible repeat (first | refine a4 ?_ _ | refine bh ?_ | refine a5 ?_ _)); refine blk_put (cs := #[.string (⟨#[]⟩ : ByteArray), .string (⟨#[]⟩ : ByteArray), .bool false, .slice none 0 0]) ?_ 0 _ rfl; (with_reducible repeat (first | refine a4 ?_ _ | refine bh ?_ | refine a5 ?_ _)); exact bB.out⟩, ⟨by repeat (first | (with_reducible first | exact HB.out | apply bm | apply bj | apply bn | refine bi ?_ bK.out | refine bi ?_ bM.out) | exact HB.out)⟩⟩
        case rest =>
         clear HC17
         try clear c1
         try clear c2
         try clear p2
         try clear q2
         try clear hx2
         try clear c3
         try clear q3
         try clear c4
         try clear c4b0
         try clear c4b1
         try clear c5
         try clear c6
         try clear c6b0
         try clear c6b1
         try clear c9
         try clear c9b0
         try clear c9b1
         try clear c10
         try clear c10b0
         try clear c13
         try clear c14
         try clear c15
         try clear c15b0
         try clear c16
         try clear c16b0
         try clear c20
         try clear c22
         try clear p22
         try clear q22
         try clear hx22
         try clear c23
         try clear c25
         try clear c25b0
         try clear c25b1
         try clear c27
         try clear c27b0
         try clear c27b1
         try clear c28
         try clear c28b0
         try clear c28b1
         try clear c29
         try clear q31
         try clear c32
         try clear c33
         try clear c33b0
         try clear c33b1
         try clear c34
         try clear c35
         try clear c37
         try clear c39
         try clear c41
         try clear c42
         try clear c44
         try clear c46
         try clear c48
         try clear c50
         try clear ca
         try clear cb
         try clear cc
         try clear cd
         try clear ce
         try clear cf
         try clear cg
         try clear ch
         try clear ci
         try clear hcz18_0
         try clear hcz18_1
         try clear hcz18_2
         try clear cj
         try clear ck
         try clear cl
         try clear cm
         try clear hcz30_0
         try clear hcz30_1
         try clear hcz30_2
         try clear hcz30_3
         try clear hcz36_0
         try clear hcz36_1
         try clear hcz36_2
         try clear hcz36_3
         try clear hcz38_0
         try clear hcz38_1
         try clear hcz38_2
         try clear hcz38_3
         try clear hcz40_0
         try clear hcz40_1
         try clear hcz40_2
         try clear hcz40_3
         try clear hcz43_0
         try clear hcz43_1
         try clear hcz43_2
         try clear hcz43_3
         try clear hcz45_0
         try clear hcz45_1
         try clear hcz45_2
         try clear hcz45_3
         try clear hcz47_0
         try clear hcz47_1
         try clear hcz47_2
         try clear hcz47_3
         try clear hcz49_0
         try clear hcz49_1
         try clear hcz49_2
         try clear hcz49_3
         try clear hcz51_0
         try clear hcz51_1
         try clear hcz51_2
         try clear hcz51_3
         try clear hcz5_0
         try clear hcz5_1
         try clear hcz5_2
         try clear hcz7_0
         try clear hcz7_1
         try clear hcz7_2
         try clear hfz11_0
         try clear hfz11_1
         try clear hfz11_2
         try clear hfz12_0
         try clear hfz12_1
         try clear hfz12_2
         try clear hfz13_0
         try clear hfz13_1
         try clear hfz13_2
         try clear hfz18_0
         try clear hfz18_1
         try clear hfz18_2
         try clear hfz21_0
         try clear hfz21_1
         try clear hfz21_2
         try clear hfz21_3
         try clear hfz30_0
         try clear hfz30_1
         try clear hfz30_2
         try clear hfz30_3
         try clear hfz36_0
         try clear hfz36_1
         try clear hfz36_2
         try clear hfz36_3
         try clear hfz38_0
         try clear hfz38_1
         try clear hfz38_2
         try clear hfz38_3
         try clear hfz40_0
         try clear hfz40_1
         try clear hfz40_2
         try clear hfz40_3
         try clear hfz43_0
         try clear hfz43_1
         try clear hfz43_2
         try clear hfz43_3
         try clear hfz45_0
         try clear hfz45_1
         try clear hfz45_2
         try clear hfz45_3
         try clear hfz47_0
         try clear hfz47_1
         try clear hfz47_2
         try clear hfz47_3
         try clear hfz49_0
         try clear hfz49_1
         try clear hfz49_2
         try clear hfz49_3
         try clear hfz51_0
         try clear hfz51_1
         try clear hfz51_2
         try clear hfz51_3
         try clear hfz5_0
         try clear hfz5_1
         try clear hfz5_2
         try clear hfz7_0
         try clear hfz7_1
         try clear hfz7_2
         try clear hx221_0
         try clear hx221_1
         try clear hx221_2
         try clear hx221_3
         try clear p2
         try clear p221
         try clear q221
         obtain ⟨kq, x85_16, rfl, HA, HJ16, bD, bB, HB⟩ := hcut
         cases kq with
         | zero => exact absurd HA.out (by simp [cowrieref20_Check.j2])
         | succ kj16 =>
          have H := HA.out
          clear HA
          simp only [cowrieref20_Check.j2] at H
          by_cases c52 : x85_16 = true
          ·
           subst c52
           have H1 : (some 9) = some r := by rw [if_pos rfl] at H; exact H
           clear H
           have H := H1
           clear H1
           obtain rfl := Option.some.inj H
           go_wp2
           repeat (go_quiet (fail); try go_wp2)
           go_ret
           exact ⟨by first | rfl | (simp [errW_none, errW_some] <;> rfl) | (simp [*, errW_none, errW_some] <;> rfl), by repeat (first | (with_reducible first | exact HB.out | apply bm | apply bj | apply bn | refine bi ?_ bK.out | refine bi ?_ bM.out) | exact HB.out)⟩
          ·
           replace c52 := Bool.eq_false_iff.mpr c52
           subst c52
           have H1 : (cowrieref20_Check.l1 kj16 bA 0 bz bE bG ((rd_T53 bz bA).f0) ((rd_T53 bz bA).f1) ((rd_T53 bz bA).f2) ((rd_T53 bz bA).f3)) = some r := by rw [if_neg (show ¬ (false = true) by decide)] at H; exact H
           clear H
           have H := H1
           clear H1
           have H' := bu H
           clear H
           go_wp2
           repeat (go_quiet (fail); try go_wp2)
           go_loopg [5] kj16 (fun kq v5 w' => ∃ (bU : Int), v5 = .int .i64 bU ∧ Aside0 (cowrieref20_Check.l1 kq bA bU bz bE bG ((rd_T53 bz bA).f0) ((rd_T53 bz bA).f1) ((rd_T53 bz bA).f2) ((rd_T53 bz bA).f3) = some r) ∧ Aside0 (kq ≤ kj16) ∧ Aside0 (w'.heap[bH]? = some (.cells #[(.slice (some ad221) bz.length bQ), (.slice bR bE.length bS), .int .i64 bG] 25 (0, 0))) ∧ Aside0 (w'.heap[bF]? = some (.cells #[.string ((rd_T53 bz bA).f0), .string ((rd_T53 bz bA).f1), .bool ((rd_T53 bz bA).f2), (.slice A221_3 ((rd_T53 bz bA).f3).length c221_3)] 53 (0, 0))) ∧ Aside0 (Below w.heap.size w w'))
           case atStart => exact ⟨(0), (by first | rfl | (simp; done) | (simp [*]; done)), H', ⟨Nat.le_refl _⟩, ⟨by (with_reducible repeat (first | refine a4 ?_ _ | refine bh ?_ | refine a5 ?_ _)); exact bD.out⟩, ⟨by (with_reducible repeat (first | refine a4 ?_ _ | refine bh ?_ | refine a5 ?_ _)); exact bB.out⟩, ⟨by repeat (first | (with_reducible first | exact HB.out | apply bm | apply bj | apply bn | refine bi ?_ bK.out | refine bi ?_ bM.out) | exact HB.out)⟩⟩
           case round =>
            clear H'
            try clear c1
            try clear c2
            try clear p2
            try clear q2
            try clear hx2
            try clear c3
            try clear q3
            try clear c4
            try clear c4b0
            try clear c4b1
            try clear c5
            try clear c6
            try clear c6b0
            try clear c6b1
            try clear c9
            try clear c9b0
            try clear c9b1
            try clear c10
            try clear c10b0
            try clear c13
            try clear c14
            try clear c15
            try clear c15b0
            try clear c16
            try clear c16b0
            try clear c20
            try clear c22
            try clear p22
            try clear q22
            try clear hx22
            try clear c23
            try clear c25
            try clear c25b0
            try clear c25b1
            try clear c27
            try clear c27b0
            try clear c27b1
            try clear c28
            try clear c28b0
            try clear c28b1
            try clear c29
            try clear q31
            try clear c32
            try clear c33
            try clear c33b0
            try clear c33b1
            try clear c34
            try clear c35
            try clear c37
            try clear c39
            try clear c41
            try clear c42
            try clear c44
            try clear c46
            try clear c48
            try clear c50
            try clear c52
            try clear ca
            try clear cb
            try clear cc
            try clear cd
            try clear ce
            try clear cf
            try clear cg
            try clear ch
            try clear ci
            try clear hcz18_0
            try clear hcz18_1
            try clear hcz18_2
            try clear cj
            try clear ck
            try clear cl
            try clear cm
            try clear hcz30_0
            try clear hcz30_1
            try clear hcz30_2
            try clear hcz30_3
            try clear hcz36_0
            try clear hcz36_1
            try clear hcz36_2
            try clear hcz36_3
            try clear hcz38_0
            try clear hcz38_1
            try clear hcz38_2
            try clear hcz38_3
            try clear hcz40_0
            try clear hcz40_1
            try clear hcz40_2
            try clear hcz40_3
            try clear hcz43_0
            try clear hcz43_1
            try clear hcz43_2
            try clear hcz43_3
            try clear hcz45_0
            try clear hcz45_1
            try clear hcz45_2
            try clear hcz45_3
            try clear hcz47_0
            try clear hcz47_1
            try clear hcz47_2
            try clear hcz47_3
            try clear hcz49_0
            try clear hcz49_1
            try clear hcz49_2
            try clear hcz49_3
            try clear hcz51_0
            try clear hcz51_1
            try clear hcz51_2
            try clear hcz51_3
            try clear hcz5_0
            try clear hcz5_1
            try clear hcz5_2
            try clear hcz7_0
            try clear hcz7_1
            try clear hcz7_2
            try clear hfz11_0
            try clear hfz11_1
            try clear hfz11_2
            try clear hfz12_0
            try clear hfz12_1
            try clear hfz12_2
            try clear hfz13_0
            try clear hfz13_1
            try clear hfz13_2
            try clear hfz18_0
            try clear hfz18_1
            try clear hfz18_2
            try clear hfz21_0
            try clear hfz21_1
            try clear hfz21_2
            try clear hfz21_3
            try clear hfz30_0
            try clear hfz30_1
            try clear hfz30_2
            try clear hfz30_3
            try clear hfz36_0
            try clear hfz36_1
            try clear hfz36_2
            try clear hfz36_3
            try clear hfz38_0
            try clear hfz38_1
            try clear hfz38_2
            try clear hfz38_3
            try clear hfz40_0
            try clear hfz40_1
            try clear hfz40_2
            try clear hfz40_3
            try clear hfz43_0
            try clear hfz43_1
            try clear hfz43_2
            try clear hfz43_3
            try clear hfz45_0
            try clear hfz45_1
            try clear hfz45_2
            try clear hfz45_3
            try clear hfz47_0
            try clear hfz47_1
            try clear hfz47_2
            try clear hfz47_3
            try clear hfz49_0
            try clear hfz49_1
            try clear hfz49_2
            try clear hfz49_3
            try clear hfz51_0
            try clear hfz51_1
            try clear hfz51_2
            try clear hfz51_3
            try clear hfz5_0
            try clear hfz5_1
            try clear hfz5_2
            try clear hfz7_0
            try clear hfz7_1
            try clear hfz7_2
            try clear hx221_0
            try clear hx221_1
            try clear hx221_2
            try clear hx221_3
            try clear p2
            try clear p22
            try clear p221
            try clear q2
            try clear q22
            try clear q221
            try clear q3
            try clear q31
            obtain ⟨bU, rfl, HA, HK4, bD, bB, HB⟩ := hrel
            cases gk with
            | zero => exact absurd HA.out (by simp [cowrieref20_Check.l1])
            | succ k4 =>
             have H := HA.out
             clear HA
             simp only [cowrieref20_Check.l1] at H
             by_cases c53 : bU < bA
             ·
              rw [if_pos c53] at H
              have c53b0 : decide (bU < bA) = true := decide_eq_true c53
              clear c53
              by_cases c54 : 0 ≤ bU
              ·
               rw [if_pos c54] at H
               have c54b0 : decide (0 ≤ bU) = true := decide_eq_true c54
               clear c54
               by_cases c55 : bU < (bz.length : Int)
               ·
                rw [if_pos c55] at H
                have c55b0 : decide (bU < (bz.length : Int)) = true := decide_eq_true c55
                clear c55
                by_cases c56 : ((rd_T53 bz bU).f0).toList = ((rd_T53 bz bA).f0).toList
                ·
                 rw [if_pos c56] at H
                 have c56b0 : (((rd_T53 bz bU).f0).toList == ((rd_T53 bz bA).f0).toList) = true := beq_iff_eq.mpr c56
                 have c56b1 : (((rd_T53 bz bU).f0).toList != ((rd_T53 bz bA).f0).toList) = false := bne_eq_false_iff_eq.mpr c56
                 clear c56
                 obtain rfl := Option.some.inj H
                 have hnb57 := bC.out
                 have hnc57 := bL.out
                 have hcz58_0 : wr.cell? ⟨bH, 0, none⟩ = some (.slice (some ad221) bz.length bQ) := (bo bD.out 0).trans rfl
                 have hcz58_1 : wr.cell? ⟨bH, 1, none⟩ = some (.slice bR bE.length bS) := (bo bD.out 1).trans rfl
                 have hcz58_2 : wr.cell? ⟨bH, 2, none⟩ = some (.int .i64 bG) := (bo bD.out 2).trans rfl
                 have hfz58_0 := bk bD.out 0
                 have hfz58_1 := bk bD.out 1
                 have hfz58_2 := bk bD.out 2
                 have p226 : 0 ≤ (bU : Int) := of_decide_eq_true (by first | (with_reducible assumption) | assumption)
                 have q226 : bU < (bz.length : Int) := of_decide_eq_true (by first | (with_reducible assumption) | assumption)
                 obtain ⟨ad226, A226_3, c226_3, e226, hx226_0, hx226_1, hx226_2, hx226_3, hl226_3, hi226_3⟩ := at_T53 HR0_0.out bU p226 q226
                 obtain rfl : ad221 = ad226 := (by injection e226)
                 replace hx226_0 := (HB.out.cell (World.block_lt_of_cell? w _ hx226_0)).trans hx226_0
                 replace hx226_1 := (HB.out.cell (World.block_lt_of_cell? w _ hx226_1)).trans hx226_1
                 replace hx226_2 := (HB.out.cell (World.block_lt_of_cell? w _ hx226_2)).trans hx226_2
                 replace hx226_3 := (HB.out.cell (World.block_lt_of_cell? w _ hx226_3)).trans hx226_3
                 have HR226_3 := bu hi226_3
                 have HC226_3 := bu hl226_3
                 clear hi226_3 hl226_3
                 replace p226 := eq_true p226
                 replace q226 := eq_true q226
                 have hcz59_0 : wr.cell? ⟨bF, 0, none⟩ = some (.string ((rd_T53 bz bA).f0)) := (bo bB.out 0).trans rfl
                 have hcz59_1 : wr.cell? ⟨bF, 1, none⟩ = some (.string ((rd_T53 bz bA).f1)) := (bo bB.out 1).trans rfl
                 have hcz59_2 : wr.cell? ⟨bF, 2, none⟩ = some (.bool ((rd_T53 bz bA).f2)) := (bo bB.out 2).trans rfl
                 have hcz59_3 : wr.cell? ⟨bF, 3, none⟩ = some (.slice A221_3 ((rd_T53 bz bA).f3).length c221_3) := (bo bB.out 3).trans rfl
                 have hfz59_0 := bk bB.out 0
                 have hfz59_1 := bk bB.out 1
                 have hfz59_2 := bk bB.out 2
                 have hfz59_3 := bk bB.out 3
                 go_wp2
                 repeat (go_quiet (fail); try go_wp2)
                 go_ret
                 exact ⟨by first | rfl | (simp [errW_none, errW_some] <;> rfl) | (simp [*, errW_none, errW_some] <;> rfl), by repeat (first | (with_reducible first | exact HB.out | apply bm | apply bj | apply bn | refine bi ?_ bK.out | refine bi ?_ bM.out) | exact HB.out)⟩
                ·
                 rw [if_neg c56] at H
                 have c56b0 : (((rd_T53 bz bU).f0).toList == ((rd_T53 bz bA).f0).toList) = false := beq_eq_false_iff_ne.mpr c56
                 have c56b1 : (((rd_T53 bz bU).f0).toList != ((rd_T53 bz bA).f0).toList) = true := bne_iff_ne.mpr c56
                 have H' := bu H
                 clear H
                 have hnb60 := bC.out
                 have hnc60 := bL.out
                 have hcz61_0 : wr.cell? ⟨bH, 0, none⟩ = some (.slice (some ad221) bz.length bQ) := (bo bD.out 0).trans rfl
                 have hcz61_1 : wr.cell? ⟨bH, 1, none⟩ = some (.slice bR bE.length bS) := (bo bD.out 1).trans rfl
                 have hcz61_2 : wr.cell? ⟨bH, 2, none⟩ = some (.int .i64 bG) := (bo bD.out 2).trans rfl
                 have hfz61_0 := bk bD.out 0
                 have hfz61_1 := bk bD.out 1
                 have hfz61_2 := bk bD.out 2
                 have p226 : 0 ≤ (bU : Int) := of_decide_eq_true (by first | (with_reducible assumption) | assumption)
                 have q226 : bU < (bz.length : Int) := of_decide_eq_true (by first | (with_reducible assumption) | assumption)
                 obtain ⟨ad226, A226_3, c226_3, e226, hx226_0, hx226_1, hx226_2, hx226_3, hl226_3, hi226_3⟩ := at_T53 HR0_0.out bU p226 q226
                 obtain rfl : ad221 = ad226 := (by injection e226)
                 replace hx226_0 := (HB.out.cell (World.block_lt_of_cell? w _ hx226_0)).trans hx226_0
                 replace hx226_1 := (HB.out.cell (World.block_lt_of_cell? w _ hx226_1)).trans hx226_1
                 replace hx226_2 := (HB.out.cell (World.block_lt_of_cell? w _ hx226_2)).trans hx226_2
                 replace hx226_3 := (HB.out.cell (World.block_lt_of_cell? w _ hx226_3)).trans hx226_3
                 have HR226_3 := bu hi226_3
                 have HC226_3 := bu hl226_3
                 clear hi226_3 hl226_3
                 replace p226 := eq_true p226
                 replace q226 := eq_true q226
                 have hcz62_0 : wr.cell? ⟨bF, 0, none⟩ = some (.string ((rd_T53 bz bA).f0)) := (bo bB.out 0).trans rfl
                 have hcz62_1 : wr.cell? ⟨bF, 1, none⟩ = some (.string ((rd_T53 bz bA).f1)) := (bo bB.out 1).trans rfl
                 have hcz62_2 : wr.cell? ⟨bF, 2, none⟩ = some (.bool ((rd_T53 bz bA).f2)) := (bo bB.out 2).trans rfl
                 have hcz62_3 : wr.cell? ⟨bF, 3, none⟩ = some (.slice A221_3 ((rd_T53 bz bA).f3).length c221_3) := (bo bB.out 3).trans rfl
                 have hfz62_0 := bk bB.out 0
                 have hfz62_1 := bk bB.out 1
                 have hfz62_2 := bk bB.out 2
                 have hfz62_3 := bk bB.out 3
                 go_wp2
                 repeat (go_quiet (fail); try go_wp2)
                 go_roundg k4
                 case measure => have := HJ1.out; have := HK2.out; have := HJ16.out; have := HK4.out; omega
                 case rel => (try rw [← Nbq31.out]); exact ⟨(wrap64 (bU + 1)), (by first | rfl | (simp; done) | (simp [*]; done)), H', ⟨by have := HJ1.out; have := HK2.out; have := HJ16.out; have := HK4.out; omega⟩, ⟨by (with_reducible repeat (first | refine a4 ?_ _ | refine bh ?_ | refine a5 ?_ _)); exact bD.out⟩, ⟨by (with_reducible repeat (first | refine a4 ?_ _ | refine bh ?_ | refine a5 ?_ _)); exact bB.out⟩, ⟨by repeat (first | (with_reducible first | exact HB.out | apply bm | apply bj | apply bn | refine bi ?_ bK.out | refine bi ?_ bM.out) | exact HB.out)⟩⟩
               ·
                rw [if_neg c55] at H
                exact absurd H (by simp)
              ·
               rw [if_neg c54] at H
               exact absurd H (by simp)
             ·
              rw [if_neg c53] at H
              have c53b0 : decide (bU < bA) = false := decide_eq_false c53
              clear c53
              have H' := bu H
              clear H
              go_wp2
              repeat (go_quiet (fail); try go_wp2)
              go_roundg k4
              case measure => have := HJ1.out; have := HK2.out; have := HJ16.out; have := HK4.out; omega
              case rel => (try rw [← Nbq31.out]); exact ⟨(wrap64 (bA + 1)), (by first | rfl | (simp; done) | (simp [*]; done)), H', ⟨by have := HJ1.out; have := HK2.out; have := HJ16.out; have := HK4.out; omega⟩, ⟨by (with_reducible repeat (first | refine a4 ?_ _ | refine bh ?_ | refine a5 ?_ _)); exact bD.out⟩, ⟨by repeat (first | (with_reducible first | exact HB.out | apply bm | apply bj | apply bn | refine bi ?_ bK.out | refine bi ?_ bM.out) | exact HB.out)⟩⟩
       ·
        rw [if_neg c16] at H
        exact absurd H (by simp)
      ·
       rw [if_neg c15] at H
       have c15b0 : decide (bA < (bz.length : Int)) = false := decide_eq_false c15
       clear c15
       obtain rfl := Option.some.inj H
       have hcz63_0 : wr.cell? ⟨bH, 0, none⟩ = some (.slice bX bz.length bQ) := (bo bD.out 0).trans rfl
       have hcz63_1 : wr.cell? ⟨bH, 1, none⟩ = some (.slice bR bE.length bS) := (bo bD.out 1).trans rfl
       have hcz63_2 : wr.cell? ⟨bH, 2, none⟩ = some (.int .i64 bG) := (bo bD.out 2).trans rfl
       have hfz63_0 := bk bD.out 0
       have hfz63_1 := bk bD.out 1
       have hfz63_2 := bk bD.out 2
       go_wp2
       repeat (go_quiet (fail); try go_wp2)
       go_ret
       exact ⟨by first | rfl | (simp [errW_none, errW_some] <;> rfl) | (simp [*, errW_none, errW_some] <;> rfl), by repeat (first | (with_reducible first | exact HB.out | apply bm | apply bj | apply bn | refine bi ?_ bK.out) | exact HB.out)⟩

end Go.Proofs.YtpljochiegallaaDoor.XVB
