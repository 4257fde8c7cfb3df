-- WRITTEN BY xprint.py, a program of this session (over the kit's print)
import Derived.Test.YtpljochiegallaaDoorBXVBx0
namespace Go.Proofs.YtpljochiegallaaDoor.XVB
open Go.RowKit Go.Proofs.YtpljochiegallaaDoorW.PrintWords Go.Proofs.YtpljochiegallaaDoorW.PrintLast Go.Proofs.YtpljochiegallaaDoorW.PrintMore
attribute [local go_sem] max2_int min2_int max_two min_two max_three min_three max_four min_four   -- for this text's walks alone
set_option linter.unusedVariables false
set_option linter.unusedSimpArgs false

/-! ### cowrieref20_text: function 28 -/
def cowrieref20_text.l0 : Nat → ByteArray → Int → Option (Int)
  | 0, _, _ => none
  | k + 1, x0, x3 => if x3 < (x0.size : Int) then (if 0 ≤ x3 then (if (bt x0 x3) = 0 then (some 61) else (cowrieref20_text.l0 k x0 (wrap64 (x3 + 1)))) else (none)) else (if (x0.size : Int) > 65536 then (some 5) else (some 0))
def cowrieref20_text.f (k : Nat) (a0 : ByteArray) : Option (Int) := cowrieref20_text.l0 k a0 0
set_option maxHeartbeats 8000000 in
set_option maxRecDepth 100000 in
theorem cowrieref20_text.calls (k : Nat) (a0 : ByteArray) (r : Int) (w : World) (h : cowrieref20_text.f k a0 = some r) :
  Calls Tryd.prog 28 #[.string a0] w fun e w' => e = .returned (.int .i64 r) ∧ Drawn0 w w' := by
 have H : (cowrieref20_text.l0 k a0 0) = some r := h
 clear h
 have H' := bu H
 clear H
 go_enter Tryd.func28, Tryd.ntmps28
 go_wp2
 go_loopg [3] k (fun kq v3 w' => ∃ (bz : Int), v3 = .int .i64 bz ∧ Aside0 (cowrieref20_text.l0 kq a0 bz = some r) ∧ Aside0 (kq ≤ k) ∧ Drawn0 w w')
 case atStart => exact ⟨(0), (by first | rfl | (simp; done) | (simp [*]; done)), H', ⟨Nat.le_refl _⟩, by repeat (first | exact Drawn0.refl _ | apply Drawn0.step)⟩
 case round =>
  clear H'
  obtain ⟨bz, rfl, HA, HK1, ⟨m1, rfl⟩⟩ := hrel
  cases gk with
  | zero => exact absurd HA.out (by simp [cowrieref20_text.l0])
  | succ k1 =>
   have H := HA.out
   clear HA
   simp only [cowrieref20_text.l0] at H
   by_cases c2 : bz < (a0.size : Int)
   ·
    rw [if_pos c2] at H
    have c2b0 : decide (bz < (a0.size : Int)) = true := decide_eq_true c2
    clear c2
    by_cases c3 : 0 ≤ bz
    ·
     rw [if_pos c3] at H
     have c3b0 : decide (0 ≤ bz) = true := decide_eq_true c3
     clear c3
     by_cases c5 : (bt a0 bz) = 0
     ·
      rw [if_pos c5] at H
      have c5b0 : ((bt a0 bz) == 0) = true := beq_iff_eq.mpr c5
      have c5b1 : ((bt a0 bz) != 0) = false := bne_eq_false_iff_eq.mpr c5
      clear c5
      obtain rfl := Option.some.inj H
      have p4 : 0 ≤ (bz : Int) := of_decide_eq_true (by first | (with_reducible assumption) | assumption)
      have q4 : bz < (a0.size : Int) := of_decide_eq_true (by first | (with_reducible assumption) | assumption)
      have hx4 := bt_at a0 bz
      replace p4 := eq_true p4
      replace q4 := eq_true q4
      go_wp2
      go_ret
      exact ⟨by first | rfl | (simp; done) | (simp [*]; done), by repeat (first | exact Drawn0.refl _ | apply Drawn0.step)⟩
     ·
      rw [if_neg c5] at H
      have c5b0 : ((bt a0 bz) == 0) = false := beq_eq_false_iff_ne.mpr c5
      have c5b1 : ((bt a0 bz) != 0) = true := bne_iff_ne.mpr c5
      have H' := bu H
      clear H
      have p4 : 0 ≤ (bz : Int) := of_decide_eq_true (by first | (with_reducible assumption) | assumption)
      have q4 : bz < (a0.size : Int) := of_decide_eq_true (by first | (with_reducible assumption) | assumption)
      have hx4 := bt_at a0 bz
      replace p4 := eq_true p4
      replace q4 := eq_true q4
      go_wp2
      go_roundg k1
      case measure => have := HK1.out; omega
      case rel => exact ⟨(wrap64 (bz + 1)), (by first | rfl | (simp; done) | (simp [*]; done)), H', ⟨by have := HK1.out; omega⟩, by repeat (first | exact Drawn0.refl _ | apply Drawn0.step)⟩
    ·
     rw [if_neg c3] at H
     exact absurd H (by simp)
   ·
    rw [if_neg c2] at H
    have c2b0 : decide (bz < (a0.size : Int)) = false := decide_eq_false c2
    clear c2
    by_cases c6 : (a0.size : Int) > 65536
    ·
     rw [if_pos c6] at H
     have c6b0 : decide (65536 < (a0.size : Int)) = true := decide_eq_true c6
     have c6b1 : decide (65536 < a0.size) = true := decide_eq_true (by omega)
     clear c6
     obtain rfl := Option.some.inj H
     go_wp2
     go_ret
     exact ⟨by first | rfl | (simp; done) | (simp [*]; done), by repeat (first | exact Drawn0.refl _ | apply Drawn0.step)⟩
    ·
     rw [if_neg c6] at H
     have c6b0 : decide (65536 < (a0.size : Int)) = false := decide_eq_false c6
     have c6b1 : decide (65536 < a0.size) = false := decide_eq_false (by omega)
     clear c6
     obtain rfl := Option.some.inj H
     go_wp2
     go_ret
     exact ⟨by first | rfl | (simp; done) | (simp [*]; done), by repeat (first | exact Drawn0.refl _ | apply Drawn0.step)⟩

/-! ### cowrieref20_texts: function 26 -/
def cowrieref20_texts.l0 : Nat → List ByteArray → Int → Option (Int)
  | 0, _, _ => none
  | k + 1, x0, x3 => if x3 < (x0.length : Int) then (if 0 ≤ x3 then ((cowrieref20_text.f k (rdOf ByteArray.empty x0 x3)).bind fun t214 => (if t214 = 0 then (cowrieref20_texts.l0 k x0 (wrap64 (x3 + 1))) else ((cowrieref20_text.f k (rdOf ByteArray.empty x0 x3)).bind fun t216 => (some t216)))) else (none)) else (some 0)
def cowrieref20_texts.f (k : Nat) (l0 : List ByteArray) : Option (Int) := cowrieref20_texts.l0 k l0 0
set_option maxHeartbeats 8000000 in
set_option maxRecDepth 100000 in
theorem cowrieref20_texts.calls (k : Nat) (A0 : Option Addr) (c0 : Nat) (l0 : List ByteArray) (r : Int) (w : World) (hr0 : Kd.C Kd.string w A0 l0.length l0) (hc0 : l0.length ≤ c0) (h : cowrieref20_texts.f k l0 = some r) :
  Calls Tryd.prog 26 #[.slice A0 l0.length c0] w fun e w' => e = .returned (.int .i64 r) ∧ Drawn0 w w' := by
 have HR0 := bu hr0
 have HC0 := bu hc0
 clear hr0 hc0
 have H : (cowrieref20_texts.l0 k l0 0) = some r := h
 clear h
 have H' := bu H
 clear H
 go_enter Tryd.func26, Tryd.ntmps26
 go_wp2
 go_loopg [3] k (fun kq v3 w' => ∃ (bz : Int), v3 = .int .i64 bz ∧ Aside0 (cowrieref20_texts.l0 kq l0 bz = some r) ∧ Aside0 (kq ≤ k) ∧ Drawn0 w w')
 case atStart => exact ⟨(0), (by first | rfl | (simp; done) | (simp [*]; done)), H', ⟨Nat.le_refl _⟩, by repeat (first | exact Drawn0.refl _ | apply Drawn0.step)⟩
 case round =>
  clear H'
  obtain ⟨bz, rfl, HA, HK1, ⟨m1, rfl⟩⟩ := hrel
  cases gk with
  | zero => exact absurd HA.out (by simp [cowrieref20_texts.l0])
  | succ k1 =>
   have H := HA.out
   clear HA
   simp only [cowrieref20_texts.l0] at H
   by_cases c2 : bz < (l0.length : Int)
   ·
    rw [if_pos c2] at H
    have c2b0 : decide (bz < (l0.length : Int)) = true := decide_eq_true c2
    clear c2
    by_cases c3 : 0 ≤ bz
    ·
     rw [if_pos c3] at H
     have c3b0 : decide (0 ≤ bz) = true := decide_eq_true c3
     clear c3
     replace H := Option.bind_eq_some_iff.mp H
     obtain ⟨t214, A40, H⟩ := H
     replace H : (if t214 = 0 then (cowrieref20_texts.l0 k1 l0 (wrap64 (bz + 1))) else ((cowrieref20_text.f k1 (rdOf ByteArray.empty l0 bz)).bind fun t216 => (some t216))) = some r := H
     have A4 := bu A40
     clear A40
     by_cases c5 : t214 = 0
     ·
      rw [if_pos c5] at H
      have c5b0 : (t214 == 0) = true := beq_iff_eq.mpr c5
      have c5b1 : (t214 != 0) = false := bne_eq_false_iff_eq.mpr c5
      clear c5
      have H' := bu H
      clear H
      have p213 : 0 ≤ (bz : Int) := of_decide_eq_true (by first | (with_reducible assumption) | assumption)
      have q213 : bz < (l0.length : Int) := of_decide_eq_true (by first | (with_reducible assumption) | assumption)
      obtain ⟨ad213, e213, hx213_0⟩ := Kd.at_string HR0.out bz p213 q213
      cases e213
      replace p213 := eq_true p213
      replace q213 := eq_true q213
      go_wp2_with (first | ((with_reducible refine bv (f := 28) rfl ?_); refine goesL_ (some 14) rfl rfl Tryd.func28 (by kernel_rfl) rfl #[.string (rdOf ByteArray.empty l0 bz)] rfl (by (try simp only [List.map_toArray, List.map_cons, List.map_nil]); first | done | rfl | (simp only [List.length_drop, List.length_take]; rfl)) ?_; (with_reducible refine (cowrieref20_text.calls k1 (rdOf ByteArray.empty l0 bz) t214 _ A4.out).mono ?_); rintro e w' ⟨rfl, ⟨nd, rfl⟩⟩; refine ⟨_, rfl, ?_⟩))
      go_roundg k1
      case measure => have := HK1.out; omega
      case rel => exact ⟨(wrap64 (bz + 1)), (by first | rfl | (simp; done) | (simp [*]; done)), H', ⟨by have := HK1.out; omega⟩, by repeat (first | exact Drawn0.refl _ | apply Drawn0.step)⟩
     ·
      rw [if_neg c5] at H
      have c5b0 : (t214 == 0) = false := beq_eq_false_iff_ne.mpr c5
      have c5b1 : (t214 != 0) = true := bne_iff_ne.mpr c5
      replace H := Option.bind_eq_some_iff.mp H
      obtain ⟨t216, A60, H⟩ := H
      replace H : (some t216) = some r := H
      have A6 := bu A60
      clear A60
      obtain rfl := Option.some.inj H
      have p213 : 0 ≤ (bz : Int) := of_decide_eq_true (by first | (with_reducible assumption) | assumption)
      have q213 : bz < (l0.length : Int) := of_decide_eq_true (by first | (with_reducible assumption) | assumption)
      obtain ⟨ad213, e213, hx213_0⟩ := Kd.at_string HR0.out bz p213 q213
      cases e213
      replace p213 := eq_true p213
      replace q213 := eq_true q213
      go_wp2_with (first | ((with_reducible refine bv (f := 28) rfl ?_); refine goesL_ (some 14) rfl rfl Tryd.func28 (by kernel_rfl) rfl #[.string (rdOf ByteArray.empty l0 bz)] rfl (by (try simp only [List.map_toArray, List.map_cons, List.map_nil]); first | done | rfl | (simp only [List.length_drop, List.length_take]; rfl)) ?_; (with_reducible refine (cowrieref20_text.calls k1 (rdOf ByteArray.empty l0 bz) t214 _ A4.out).mono ?_); rintro e w' ⟨rfl, ⟨nd, rfl⟩⟩; refine ⟨_, rfl, ?_⟩; have p215 : 0 ≤ (bz : Int) := of_decide_eq_true (by first | (with_reducible assumption) | assumption); have q215 : bz < (l0.length : Int) := of_decide_eq_true (by first | (with_reducible assumption) | assumption); obtain ⟨ad215, e215, hx215_0⟩ := Kd.at_string HR0.out bz p215 q215; obtain rfl : ad213 = ad215 := (by injection e215); replace p215 := eq_true p215; replace q215 := eq_true q215) | ((with_reducible refine bv (f := 28) rfl ?_); refine goesL_ (some 20) rfl rfl Tryd.func28 (by kernel_rfl) rfl #[.string (rdOf ByteArray.empty l0 bz)] rfl (by (try simp only [List.map_toArray, List.map_cons, List.map_nil]); first | done | rfl | (simp only [List.length_drop, List.length_take]; rfl)) ?_; (with_reducible refine (cowrieref20_text.calls k1 (rdOf ByteArray.empty l0 bz) t216 _ A6.out).mono ?_); rintro e w' ⟨rfl, ⟨nd, rfl⟩⟩; refine ⟨_, rfl, ?_⟩))
      go_ret
      exact ⟨by first | rfl | (simp; done) | (simp [*]; done), by repeat (first | exact Drawn0.refl _ | apply Drawn0.step)⟩
    ·
     rw [if_neg c3] at H
     exact absurd H (by simp)
   ·
    rw [if_neg c2] at H
    have c2b0 : decide (bz < (l0.length : Int)) = false := decide_eq_false c2
    clear c2
    obtain rfl := Option.some.inj H
    go_wp2
    go_ret
    exact ⟨by first | rfl | (simp; done) | (simp [*]; done), by repeat (first | exact Drawn0.refl _ | apply Drawn0.step)⟩

/-! ### cowrieref01_letter: function 48 -/
def cowrieref01_letter.f (a0 : Int) : Option (Bool) := if a0 ≥ 97 then (if a0 ≤ 122 then (some true) else (if a0 ≥ 65 then (if a0 ≤ 90 then (some true) else (some (a0 == 95))) else (some (a0 == 95)))) else (if a0 ≥ 65 then (if a0 ≤ 90 then (some true) else (some (a0 == 95))) else (some (a0 == 95)))
set_option maxHeartbeats 8000000 in
set_option maxRecDepth 100000 in
theorem cowrieref01_letter.calls (a0 : Int) (r : Bool) (w : World) (h : cowrieref01_letter.f a0 = some r) :
  Calls Tryd.prog 48 #[.int .u8 a0] w fun e w' => e = .returned (.bool r) ∧ Drawn0 w w' := by
 have H : (if a0 ≥ 97 then (if a0 ≤ 122 then (some true) else (if a0 ≥ 65 then (if a0 ≤ 90 then (some true) else (some (a0 == 95))) else (some (a0 == 95)))) else (if a0 ≥ 65 then (if a0 ≤ 90 then (some true) else (some (a0 == 95))) else (some (a0 == 95)))) = some r := h
 clear h
 by_cases c2 : a0 ≥ 97
 ·
  rw [if_pos c2] at H
  have c2b0 : decide (97 ≤ a0) = true := decide_eq_true c2
  clear c2
  by_cases c3 : a0 ≤ 122
  ·
   rw [if_pos c3] at H
   have c3b0 : decide (a0 ≤ 122) = true := decide_eq_true c3
   clear c3
   obtain rfl := Option.some.inj H
   go_enter Tryd.func48, Tryd.ntmps48
   go_wp2
   go_ret
   exact ⟨by first | rfl | (simp; done) | (simp [*]; done), by repeat (first | exact Drawn0.refl _ | apply Drawn0.step)⟩
  ·
   rw [if_neg c3] at H
   have c3b0 : decide (a0 ≤ 122) = false := decide_eq_false c3
   clear c3
   by_cases c4 : a0 ≥ 65
   ·
    rw [if_pos c4] at H
    have c4b0 : decide (65 ≤ a0) = true := decide_eq_true c4
    clear c4
    by_cases c5 : a0 ≤ 90
    ·
     rw [if_pos c5] at H
     have c5b0 : decide (a0 ≤ 90) = true := decide_eq_true c5
     clear c5
     obtain rfl := Option.some.inj H
     go_enter Tryd.func48, Tryd.ntmps48
     go_wp2
     go_ret
     exact ⟨by first | rfl | (simp; done) | (simp [*]; done), by repeat (first | exact Drawn0.refl _ | apply Drawn0.step)⟩
    ·
     rw [if_neg c5] at H
     have c5b0 : decide (a0 ≤ 90) = false := decide_eq_false c5
     clear c5
     obtain rfl := Option.some.inj H
     go_enter Tryd.func48, Tryd.ntmps48
     go_wp2
     go_ret
     exact ⟨by first | rfl | (simp; done) | (simp [*]; done), by repeat (first | exact Drawn0.refl _ | apply Drawn0.step)⟩
   ·
    rw [if_neg c4] at H
    have c4b0 : decide (65 ≤ a0) = false := decide_eq_false c4
    clear c4
    obtain rfl := Option.some.inj H
    go_enter Tryd.func48, Tryd.ntmps48
    go_wp2
    go_ret
    exact ⟨by first | rfl | (simp; done) | (simp [*]; done), by repeat (first | exact Drawn0.refl _ | apply Drawn0.step)⟩
 ·
  rw [if_neg c2] at H
  have c2b0 : decide (97 ≤ a0) = false := decide_eq_false c2
  clear c2
  by_cases c6 : a0 ≥ 65
  ·
   rw [if_pos c6] at H
   have c6b0 : decide (65 ≤ a0) = true := decide_eq_true c6
   clear c6
   by_cases c7 : a0 ≤ 90
   ·
    rw [if_pos c7] at H
    have c7b0 : decide (a0 ≤ 90) = true := decide_eq_true c7
    clear c7
    obtain rfl := Option.some.inj H
    go_enter Tryd.func48, Tryd.ntmps48
    go_wp2
    go_ret
    exact ⟨by first | rfl | (simp; done) | (simp [*]; done), by repeat (first | exact Drawn0.refl _ | apply Drawn0.step)⟩
   ·
    rw [if_neg c7] at H
    have c7b0 : decide (a0 ≤ 90) = false := decide_eq_false c7
    clear c7
    obtain rfl := Option.some.inj H
    go_enter Tryd.func48, Tryd.ntmps48
    go_wp2
    go_ret
    exact ⟨by first | rfl | (simp; done) | (simp [*]; done), by repeat (first | exact Drawn0.refl _ | apply Drawn0.step)⟩
  ·
   rw [if_neg c6] at H
   have c6b0 : decide (65 ≤ a0) = false := decide_eq_false c6
   clear c6
   obtain rfl := Option.some.inj H
   go_enter Tryd.func48, Tryd.ntmps48
   go_wp2
   go_ret
   exact ⟨by first | rfl | (simp; done) | (simp [*]; done), by repeat (first | exact Drawn0.refl _ | apply Drawn0.step)⟩

/-! ### cowrieref01_digit: function 49 -/
def cowrieref01_digit.f (a0 : Int) : Option (Bool) := if a0 ≥ 48 then (some (decide (a0 ≤ 57))) else (some false)
set_option maxHeartbeats 8000000 in
set_option maxRecDepth 100000 in
theorem cowrieref01_digit.calls (a0 : Int) (r : Bool) (w : World) (h : cowrieref01_digit.f a0 = some r) :
  Calls Tryd.prog 49 #[.int .u8 a0] w fun e w' => e = .returned (.bool r) ∧ Drawn0 w w' := by
 have H : (if a0 ≥ 48 then (some (decide (a0 ≤ 57))) else (some false)) = some r := h
 clear h
 by_cases c2 : a0 ≥ 48
 ·
  rw [if_pos c2] at H
  have c2b0 : decide (48 ≤ a0) = true := decide_eq_true c2
  clear c2
  obtain rfl := Option.some.inj H
  go_enter Tryd.func49, Tryd.ntmps49
  go_wp2
  go_ret
  exact ⟨by first | rfl | (simp; done) | (simp [*]; done), by repeat (first | exact Drawn0.refl _ | apply Drawn0.step)⟩
 ·
  rw [if_neg c2] at H
  have c2b0 : decide (48 ≤ a0) = false := decide_eq_false c2
  clear c2
  obtain rfl := Option.some.inj H
  go_enter Tryd.func49, Tryd.ntmps49
  go_wp2
  go_ret
  exact ⟨by first | rfl | (simp; done) | (simp [*]; done), by repeat (first | exact Drawn0.refl _ | apply Drawn0.step)⟩

/-! ### cowrieref01_Name: function 27 -/
def cowrieref01_Name.l0 : Nat → ByteArray → Int → Option (Bool)
  | 0, _, _ => none
  | k + 1, x0, x3 => if x3 < (x0.size : Int) then (if 0 ≤ x3 then ((cowrieref01_letter.f (bt x0 x3)).bind fun t217 => (if t217 = true then (cowrieref01_Name.l0 k x0 (wrap64 (x3 + 1))) else (if x3 = 0 then (some false) else ((cowrieref01_digit.f (bt x0 x3)).bind fun t218 => (if t218 = true then (cowrieref01_Name.l0 k x0 (wrap64 (x3 + 1))) else (some false)))))) else (none)) else (if (x0.size : Int) > 0 then (some (decide ((x0.size : Int) ≤ 64))) else (some false))
def cowrieref01_Name.f (k : Nat) (a0 : ByteArray) : Option (Bool) := cowrieref01_Name.l0 k a0 0
theorem cowrieref01_Name.mono_l : ∀ k, (∀ y0 y1, LeO (cowrieref01_Name.l0 k y0 y1) (cowrieref01_Name.l0 (k + 1) y0 y1))
 | 0 => fun _ _ r h => by simp [cowrieref01_Name.l0] at h
 | k + 1 => by
  have ih0 := cowrieref01_Name.mono_l k
  ·
   intro y0 y1
   unfold cowrieref01_Name.l0
   repeat' first
   | (with_reducible exact ih0 _ _)
   | (with_reducible exact LeO.refl _)
   | (with_reducible exact LeO.none _)
   | (with_reducible refine LeO.ite ?_ ?_)
   | (with_reducible refine LeO.bind ?_ (fun _ => ?_))
   | exact ih0 _ _
   | exact LeO.none _
   | refine LeO.ite ?_ ?_
   | refine LeO.bind ?_ (fun _ => ?_)
theorem cowrieref01_Name.mono : ∀ a0 k, LeO (cowrieref01_Name.f k a0) (cowrieref01_Name.f (k + 1) a0) := by
 intro a0 k
 have ih0 := cowrieref01_Name.mono_l k
 unfold cowrieref01_Name.f
 repeat' first
   | (with_reducible exact ih0 _ _)
   | (with_reducible exact LeO.refl _)
   | (with_reducible exact LeO.none _)
   | (with_reducible refine LeO.ite ?_ ?_)
   | (with_reducible refine LeO.bind ?_ (fun _ => ?_))
   | exact ih0 _ _
   | exact LeO.none _
   | refine LeO.ite ?_ ?_
   | refine LeO.bind ?_ (fun _ => ?_)
set_option maxHeartbeats 8000000 in
set_option maxRecDepth 100000 in
theorem cowrieref01_Name.calls (k : Nat) (a0 : ByteArray) (r : Bool) (w : World) (h : cowrieref01_Name.f k a0 = some r) :
  Calls Tryd.prog 27 #[.string a0] w fun e w' => e = .returned (.bool r) ∧ Drawn0 w w' := by
 have H : (cowrieref01_Name.l0 k a0 0) = some r := h
 clear h
 have H' := bu H
 clear H
 go_enter Tryd.func27, Tryd.ntmps27
 go_wp2
 go_loopg [3] k (fun kq v3 w' => ∃ (bz : Int), v3 = .int .i64 bz ∧ Aside0 (cowrieref01_Name.l0 kq a0 bz = some r) ∧ Aside0 (kq ≤ k) ∧ Drawn0 w w')
 case atStart => exact ⟨(0), (by first | rfl | (simp; done) | (simp [*]; done)), H', ⟨Nat.le_refl _⟩, by repeat (first | exact Drawn0.refl _ | apply Drawn0.step)⟩
 case round =>
  clear H'
  obtain ⟨bz, rfl, HA, HK1, ⟨m1, rfl⟩⟩ := hrel
  cases gk with
  | zero => exact absurd HA.out (by simp [cowrieref01_Name.l0])
  | succ k1 =>
   have H := HA.out
   clear HA
   simp only [cowrieref01_Name.l0] at H
   by_cases c2 : bz < (a0.size : Int)
   ·
    rw [if_pos c2] at H
    have c2b0 : decide (bz < (a0.size : Int)) = true := decide_eq_true c2
    clear c2
    by_cases c3 : 0 ≤ bz
    ·
     rw [if_pos c3] at H
     have c3b0 : decide (0 ≤ bz) = true := decide_eq_true c3
     clear c3
     replace H := Option.bind_eq_some_iff.mp H
     obtain ⟨t217, A50, H⟩ := H
     replace H : (if t217 = true then (cowrieref01_Name.l0 k1 a0 (wrap64 (bz + 1))) else (if bz = 0 then (some false) else ((cowrieref01_digit.f (bt a0 bz)).bind fun t218 => (if t218 = true then (cowrieref01_Name.l0 k1 a0 (wrap64 (bz + 1))) else (some false))))) = some r := H
     have A5 := bu A50
     clear A50
     by_cases c6 : t217 = true
     ·
      subst c6
      have H1 : (cowrieref01_Name.l0 k1 a0 (wrap64 (bz + 1))) = some r := by rw [if_pos rfl] at H; exact H
      clear H
      have H := H1
      clear H1
      have H' := bu H
      clear H
      have p4 : 0 ≤ (bz : Int) := of_decide_eq_true (by first | (with_reducible assumption) | assumption)
      have q4 : bz < (a0.size : Int) := of_decide_eq_true (by first | (with_reducible assumption) | assumption)
      have hx4 := bt_at a0 bz
      replace p4 := eq_true p4
      replace q4 := eq_true q4
      go_wp2_with (first | ((with_reducible refine bv (f := 48) rfl ?_); refine goesL_ (some 13) rfl rfl Tryd.func48 (by kernel_rfl) rfl #[.int .u8 (bt a0 bz)] rfl (by (try simp only [List.map_toArray, List.map_cons, List.map_nil]); first | done | rfl | (simp only [List.length_drop, List.length_take]; rfl)) ?_; (with_reducible refine (cowrieref01_letter.calls (bt a0 bz) true _ A5.out).mono ?_); rintro e w' ⟨rfl, ⟨nd, rfl⟩⟩; refine ⟨_, rfl, ?_⟩))
      go_roundg k1
      case measure => have := HK1.out; omega
      case rel => exact ⟨(wrap64 (bz + 1)), (by first | rfl | (simp; done) | (simp [*]; done)), H', ⟨by have := HK1.out; omega⟩, by repeat (first | exact Drawn0.refl _ | apply Drawn0.step)⟩
     ·
      replace c6 := Bool.eq_false_iff.mpr c6
      subst c6
      have H1 : (if bz = 0 then (some false) else ((cowrieref01_digit.f (bt a0 bz)).bind fun t218 => (if t218 = true then (cowrieref01_Name.l0 k1 a0 (wrap64 (bz + 1))) else (some false)))) = some r := by rw [if_neg (show ¬ (false = true) by decide)] at H; exact H
      clear H
      have H := H1
      clear H1
      by_cases c7 : bz = 0
      ·
       rw [if_pos c7] at H
       have c7b0 : (bz == 0) = true := beq_iff_eq.mpr c7
       have c7b1 : (bz != 0) = false := bne_eq_false_iff_eq.mpr c7
       clear c7
       obtain rfl := Option.some.inj H
       have p4 : 0 ≤ (bz : Int) := of_decide_eq_true (by first | (with_reducible assumption) | assumption)
       have q4 : bz < (a0.size : Int) := of_decide_eq_true (by first | (with_reducible assumption) | assumption)
       have hx4 := bt_at a0 bz
       replace p4 := eq_true p4
       replace q4 := eq_true q4
       go_wp2_with (first | ((with_reducible refine bv (f := 48) rfl ?_); refine goesL_ (some 13) rfl rfl Tryd.func48 (by kernel_rfl) rfl #[.int .u8 (bt a0 bz)] rfl (by (try simp only [List.map_toArray, List.map_cons, List.map_nil]); first | done | rfl | (simp only [List.length_drop, List.length_take]; rfl)) ?_; (with_reducible refine (cowrieref01_letter.calls (bt a0 bz) false _ A5.out).mono ?_); rintro e w' ⟨rfl, ⟨nd, rfl⟩⟩; refine ⟨_, rfl, ?_⟩))
       go_ret
       exact ⟨by first | rfl | (simp; done) | (simp [*]; done), by repeat (first | exact Drawn0.refl _ | apply Drawn0.step)⟩
      ·
       rw [if_neg c7] at H
       have c7b0 : (bz == 0) = false := beq_eq_false_iff_ne.mpr c7
       have c7b1 : (bz != 0) = true := bne_iff_ne.mpr c7
       replace H := Option.bind_eq_some_iff.mp H
       obtain ⟨t218, A90, H⟩ := H
       replace H : (if t218 = true then (cowrieref01_Name.l0 k1 a0 (wrap64 (bz + 1))) else (some false)) = some r := H
       have A9 := bu A90
       clear A90
       by_cases c10 : t218 = true
       ·
        subst c10
        have H1 : (cowrieref01_Name.l0 k1 a0 (wrap64 (bz + 1))) = some r := by rw [if_pos rfl] at H; exact H
        clear H
        have H := H1
        clear H1
        have H' := bu H
        clear H
        have p4 : 0 ≤ (bz : Int) := of_decide_eq_true (by first | (with_reducible assumption) | assumption)
        have q4 : bz < (a0.size : Int) := of_decide_eq_true (by first | (with_reducible assumption) | assumption)
        have hx4 := bt_at a0 bz
        replace p4 := eq_true p4
        replace q4 := eq_true q4
        go_wp2_with (first | ((with_reducible refine bv (f := 48) rfl ?_); refine goesL_ (some 13) rfl rfl Tryd.func48 (by kernel_rfl) rfl #[.int .u8 (bt a0 bz)] rfl (by (try simp only [List.map_toArray, List.map_cons, List.map_nil]); first | done | rfl | (simp only [List.length_drop, List.length_take]; rfl)) ?_; (with_reducible refine (cowrieref01_letter.calls (bt a0 bz) false _ A5.out).mono ?_); rintro e w' ⟨rfl, ⟨nd, rfl⟩⟩; refine ⟨_, rfl, ?_⟩; have p8 : 0 ≤ (bz : Int) := of_decide_eq_true (by first | (with_reducible assumption) | assumption); have q8 : bz < (a0.size : Int) := of_decide_eq_true (by first | (with_reducible assumption) | assumption); have hx8 := bt_at a0 bz; replace p8 := eq_true p8; replace q8 := eq_true q8) | (go_at_call 49; (with_reducible refine (cowrieref01_digit.calls (bt a0 bz) true _ A9.out).mono ?_); rintro e w' ⟨rfl, ⟨nd, rfl⟩⟩))
        go_roundg k1
        case measure => have := HK1.out; omega
        case rel => exact ⟨(wrap64 (bz + 1)), (by first | rfl | (simp; done) | (simp [*]; done)), H', ⟨by have := HK1.out; omega⟩, by repeat (first | exact Drawn0.refl _ | apply Drawn0.step)⟩
       ·
        replace c10 := Bool.eq_false_iff.mpr c10
        subst c10
        have H1 : (some false) = some r := by rw [if_neg (show ¬ (false = true) by decide)] at H; exact H
        clear H
        have H := H1
        clear H1
        obtain rfl := Option.some.inj H
        have p4 : 0 ≤ (bz : Int) := of_decide_eq_true (by first | (with_reducible assumption) | assumption)
        have q4 : bz < (a0.size : Int) := of_decide_eq_true (by first | (with_reducible assumption) | assumption)
        have hx4 := bt_at a0 bz
        replace p4 := eq_true p4
        replace q4 := eq_true q4
        go_wp2_with (first | ((with_reducible refine bv (f := 48) rfl ?_); refine goesL_ (some 13) rfl rfl Tryd.func48 (by kernel_rfl) rfl #[.int .u8 (bt a0 bz)] rfl (by (try simp only [List.map_toArray, List.map_cons, List.map_nil]); first | done | rfl | (simp only [List.length_drop, List.length_take]; rfl)) ?_; (with_reducible refine (cowrieref01_letter.calls (bt a0 bz) false _ A5.out).mono ?_); rintro e w' ⟨rfl, ⟨nd, rfl⟩⟩; refine ⟨_, rfl, ?_⟩; have p8 : 0 ≤ (bz : Int) := of_decide_eq_true (by first | (with_reducible assumption) | assumption); have q8 : bz < (a0.size : Int) := of_decide_eq_true (by first | (with_reducible assumption) | assumption); have hx8 := bt_at a0 bz; replace p8 := eq_true p8; replace q8 := eq_true q8) | (go_at_call 49; (with_reducible refine (cowrieref01_digit.calls (bt a0 bz) false _ A9.out).mono ?_); rintro e w' ⟨rfl, ⟨nd, rfl⟩⟩))
        go_ret
        exact ⟨by first | rfl | (simp; done) | (simp [*]; done), by repeat (first | exact Drawn0.refl _ | apply Drawn0.step)⟩
    ·
     rw [if_neg c3] at H
     exact absurd H (by simp)
   ·
    rw [if_neg c2] at H
    have c2b0 : decide (bz < (a0.size : Int)) = false := decide_eq_false c2
    clear c2
    by_cases c11 : (a0.size : Int) > 0
    ·
     rw [if_pos c11] at H
     have c11b0 : decide (0 < (a0.size : Int)) = true := decide_eq_true c11
     have c11b1 : decide (0 < a0.size) = true := decide_eq_true (by omega)
     clear c11
     obtain rfl := Option.some.inj H
     go_wp2
     go_ret
     exact ⟨by first | rfl | (simp; done) | (simp [*]; done), by repeat (first | exact Drawn0.refl _ | apply Drawn0.step)⟩
    ·
     rw [if_neg c11] at H
     have c11b0 : decide (0 < (a0.size : Int)) = false := decide_eq_false c11
     have c11b1 : decide (0 < a0.size) = false := decide_eq_false (by omega)
     clear c11
     obtain rfl := Option.some.inj H
     go_wp2
     go_ret
     exact ⟨by first | rfl | (simp; done) | (simp [*]; done), by repeat (first | exact Drawn0.refl _ | apply Drawn0.step)⟩

end Go.Proofs.YtpljochiegallaaDoor.XVB
