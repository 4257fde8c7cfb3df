-- WRITTEN BY xprint.py, a program of this session (over the kit's print)
import Derived.Test.YtpljochiegallaaDoorBXVBx0
import Derived.Test.YtpljochiegallaaDoorBXVBx9
namespace Go.Proofs.YtpljochiegallaaDoor.XVB
open Go.RowKit Go.Proofs.YtpljochiegallaaDoorW.PrintWords Go.Proofs.YtpljochiegallaaDoorW.PrintLast Go.Proofs.YtpljochiegallaaDoorW.PrintMore
attribute [local go_sem] max2_int min2_int max_two min_two max_three min_three max_four min_four   -- for this text's walks alone
set_option linter.unusedVariables false
set_option linter.unusedSimpArgs false

/-! ### cowrieref04_Parse: function 63 -/
mutual
def cowrieref04_Parse.j0 : Nat → ByteArray → Bool → Option (Int × Int)
  | 0, _, _ => none
  | k + 1, x0, x4 => if x4 = true then (cowrieref04_Parse.j1 k x0 x4 true) else (if (x0.size : Int) > 0 then (if 0 < (x0.size : Int) then (cowrieref04_Parse.j1 k x0 x4 ((bt x0 0) == 43)) else (none)) else (cowrieref04_Parse.j1 k x0 x4 false))
def cowrieref04_Parse.j1 : Nat → ByteArray → Bool → Bool → Option (Int × Int)
  | 0, _, _, _ => none
  | k + 1, x0, x4, x27 => if x27 = true then (if 1 ≤ (x0.size : Int) then (cowrieref04_Parse.j2 k (x0.extract 1 x0.size) x4) else (none)) else (cowrieref04_Parse.j2 k x0 x4)
def cowrieref04_Parse.j2 : Nat → ByteArray → Bool → Option (Int × Int)
  | 0, _, _ => none
  | k + 1, x0, x4 => (cowrieref04_digits.f k x0 10).bind fun bt242 => (if bt242.2 = true then (if x4 = true then (some (wrap64 (IntKind.u64.wrap (-bt242.1)), 0)) else (some (wrap64 (bt242.1), 0))) else (some (0, 33)))
end
def cowrieref04_Parse.f (k : Nat) (a0 : ByteArray) : Option (Int × Int) := (cowrieref04_Trim.f k a0).bind fun t241 => (if (t241.size : Int) > 0 then (if 0 < (t241.size : Int) then (cowrieref04_Parse.j0 k t241 ((bt t241 0) == 45)) else (none)) else (cowrieref04_Parse.j0 k t241 false))
set_option maxHeartbeats 8000000 in
set_option maxRecDepth 100000 in
theorem cowrieref04_Parse.calls (k : Nat) (a0 : ByteArray) (r1 : Int) (r2 : Int) (w : World) (h : cowrieref04_Parse.f k a0 = some (r1, r2)) :
  Calls Tryd.prog 63 #[.string a0] w fun e w' => e = .returned (.tuple #[.int .i64 r1, .int .i64 r2]) ∧ Drawn0 w w' := by
 have H : ((cowrieref04_Trim.f k a0).bind fun bz => (if (bz.size : Int) > 0 then (if 0 < (bz.size : Int) then (cowrieref04_Parse.j0 k bz ((bt bz 0) == 45)) else (none)) else (cowrieref04_Parse.j0 k bz false))) = some (r1, r2) := h
 clear h
 replace H := Option.bind_eq_some_iff.mp H
 obtain ⟨bz, A20, H⟩ := H
 replace H : (if (bz.size : Int) > 0 then (if 0 < (bz.size : Int) then (cowrieref04_Parse.j0 k bz ((bt bz 0) == 45)) else (none)) else (cowrieref04_Parse.j0 k bz false)) = some (r1, r2) := H
 have A2 := bu A20
 clear A20
 have HC3 := bu H
 clear H
 go_enter Tryd.func63, Tryd.ntmps63
 go_upto_region 2 with (first | ((with_reducible refine bv (f := 80) rfl ?_); refine goesL_ (some 8) rfl rfl Tryd.func80 (by kernel_rfl) rfl #[.string a0] rfl (by (try simp only [List.map_toArray, List.map_cons, List.map_nil]); first | done | rfl | (simp only [List.length_drop, List.length_take]; rfl)) ?_; (with_reducible refine (cowrieref04_Trim.calls k a0 bz _ A2.out).mono ?_); rintro e w' ⟨rfl, ⟨nd, rfl⟩⟩; refine ⟨_, rfl, ?_⟩))
 (try simp only [Act.put, List.setIfInBounds_toArray, List.set_cons_zero, List.set_cons_succ])
 go_cut [4] (fun v4 wc => ∃ (kq : Nat) (x4_2 : Bool), v4 = .bool x4_2 ∧ Aside0 (cowrieref04_Parse.j0 kq bz x4_2 = some (r1, r2)) ∧ Aside0 (kq ≤ k) ∧ Drawn0 w wc)
 case first =>
  have H := HC3.out
  clear HC3
  by_cases c4 : (bz.size : Int) > 0
  ·
   rw [if_pos c4] at H
   have c4b0 : decide (0 < (bz.size : Int)) = true := decide_eq_true c4
   have c4b1 : decide (0 < bz.size) = true := decide_eq_true (by omega)
   clear c4
   (first | rw [c4b0] | (simp only [i64_w, i32_w]; rw [c4b0]) | skip)
   by_cases c5 : 0 < (bz.size : Int)
   ·
    rw [if_pos c5] at H
    have c5b0 : decide (0 < (bz.size : Int)) = true := decide_eq_true c5
    have c5b1 : decide (0 < bz.size) = true := decide_eq_true (by omega)
    clear c5
    have H' := bu H
    clear H
    have p6 : 0 ≤ (0 : Int) := (by omega)
    have q6 : 0 < bz.size := (by have : (0 : Int) < (bz.size : Int) := of_decide_eq_true (by first | (with_reducible assumption) | assumption); omega)
    have hx6 : ∀ h : 0 < bz.size, ((bz[0]'h).toNat : Int) = bt bz 0 := bt_at bz 0
    clear p6
    have qi6 : (0 < (bz.size : Int)) = True := eq_true (of_decide_eq_true (by first | (with_reducible assumption) | assumption))
    replace q6 := eq_true q6
    go_wp2
    go_meet
    case rel => exact ⟨_, (((bt bz 0) == 45)), (by first | rfl | (simp; done) | (simp [*]; done)), H', ⟨by first | omega | exact Nat.le_refl _⟩, by repeat (first | exact Drawn0.refl _ | apply Drawn0.step)⟩
   ·
    rw [if_neg c5] at H
    exact absurd H (by simp)
  ·
   rw [if_neg c4] at H
   have c4b0 : decide (0 < (bz.size : Int)) = false := decide_eq_false c4
   have c4b1 : decide (0 < bz.size) = false := decide_eq_false (by omega)
   clear c4
   (first | rw [c4b0] | (simp only [i64_w, i32_w]; rw [c4b0]) | skip)
   have H' := bu H
   clear H
   go_wp2
   go_meet
   case rel => exact ⟨_, (false), (by first | rfl | (simp; done) | (simp [*]; done)), H', ⟨by first | omega | exact Nat.le_refl _⟩, by repeat (first | exact Drawn0.refl _ | apply Drawn0.step)⟩
 case rest =>
  clear HC3
  try clear p2
  try clear c4
  try clear c4b0
  try clear c4b1
  try clear c5
  try clear c5b0
  try clear c5b1
  try clear c6
  try clear p6
  try clear q6
  try clear hx6
  try clear qi6
  try clear p6
  try clear q6
  obtain ⟨kq, x4_2, rfl, HA, HJ2, ⟨mc2, rfl⟩⟩ := hcut
  cases kq with
  | zero => exact absurd HA.out (by simp [cowrieref04_Parse.j0])
  | succ kj2 =>
   have H := HA.out
   clear HA
   simp only [cowrieref04_Parse.j0] at H
   have HC7 := bu H
   clear H
   go_upto_region 3 with (fail)
   go_cut [27] (fun v27 wc => ∃ (kq : Nat) (x27_6 : Bool), v27 = .bool x27_6 ∧ Aside0 (cowrieref04_Parse.j1 kq bz x4_2 x27_6 = some (r1, r2)) ∧ Aside0 (kq ≤ kj2) ∧ Drawn0 w wc)
   case first =>
    have H := HC7.out
    clear HC7
    by_cases c8 : x4_2 = true
    ·
     subst c8
     have H1 : (cowrieref04_Parse.j1 kj2 bz true true) = some (r1, r2) := by rw [if_pos rfl] at H; exact H
     clear H
     have H := H1
     clear H1
     have H' := bu H
     clear H
     go_wp2
     go_meet
     case rel => exact ⟨_, (true), (by first | rfl | (simp; done) | (simp [*]; done)), H', ⟨by have := HJ2.out; first | omega | exact Nat.le_refl _⟩, by repeat (first | exact Drawn0.refl _ | apply Drawn0.step)⟩
    ·
     replace c8 := Bool.eq_false_iff.mpr c8
     subst c8
     have H1 : (if (bz.size : Int) > 0 then (if 0 < (bz.size : Int) then (cowrieref04_Parse.j1 kj2 bz false ((bt bz 0) == 43)) else (none)) else (cowrieref04_Parse.j1 kj2 bz false false)) = some (r1, r2) := by rw [if_neg (show ¬ (false = true) by decide)] at H; exact H
     clear H
     have H := H1
     clear H1
     by_cases c9 : (bz.size : Int) > 0
     ·
      rw [if_pos c9] at H
      have c9b0 : decide (0 < (bz.size : Int)) = true := decide_eq_true c9
      have c9b1 : decide (0 < bz.size) = true := decide_eq_true (by omega)
      clear c9
      (first | rw [c9b0] | (simp only [i64_w, i32_w]; rw [c9b0]) | skip)
      by_cases c10 : 0 < (bz.size : Int)
      ·
       rw [if_pos c10] at H
       have c10b0 : decide (0 < (bz.size : Int)) = true := decide_eq_true c10
       have c10b1 : decide (0 < bz.size) = true := decide_eq_true (by omega)
       clear c10
       have H' := bu H
       clear H
       have p11 : 0 ≤ (0 : Int) := (by omega)
       have q11 : 0 < bz.size := (by have : (0 : Int) < (bz.size : Int) := of_decide_eq_true (by first | (with_reducible assumption) | assumption); omega)
       have hx11 : ∀ h : 0 < bz.size, ((bz[0]'h).toNat : Int) = bt bz 0 := bt_at bz 0
       clear p11
       have qi11 : (0 < (bz.size : Int)) = True := eq_true (of_decide_eq_true (by first | (with_reducible assumption) | assumption))
       replace q11 := eq_true q11
       go_wp2
       go_meet
       case rel => exact ⟨_, (((bt bz 0) == 43)), (by first | rfl | (simp; done) | (simp [*]; done)), H', ⟨by have := HJ2.out; first | omega | exact Nat.le_refl _⟩, by repeat (first | exact Drawn0.refl _ | apply Drawn0.step)⟩
      ·
       rw [if_neg c10] at H
       exact absurd H (by simp)
     ·
      rw [if_neg c9] at H
      have c9b0 : decide (0 < (bz.size : Int)) = false := decide_eq_false c9
      have c9b1 : decide (0 < bz.size) = false := decide_eq_false (by omega)
      clear c9
      (first | rw [c9b0] | (simp only [i64_w, i32_w]; rw [c9b0]) | skip)
      have H' := bu H
      clear H
      go_wp2
      go_meet
      case rel => exact ⟨_, (false), (by first | rfl | (simp; done) | (simp [*]; done)), H', ⟨by have := HJ2.out; first | omega | exact Nat.le_refl _⟩, by repeat (first | exact Drawn0.refl _ | apply Drawn0.step)⟩
   case rest =>
    clear HC7
    try clear c1
    try clear p1
    try clear q1
    try clear hx1
    try clear qi1
    try clear c2
    try clear p2
    try clear c4
    try clear c4b0
    try clear c4b1
    try clear c5
    try clear c5b0
    try clear c5b1
    try clear c6
    try clear p6
    try clear q6
    try clear hx6
    try clear qi6
    try clear c8
    try clear c9
    try clear c9b0
    try clear c9b1
    try clear c10
    try clear c10b0
    try clear c10b1
    try clear p11
    try clear q11
    try clear hx11
    try clear qi11
    try clear p11
    try clear p2
    try clear p6
    try clear q11
    try clear q6
    obtain ⟨kq, x27_6, rfl, HA, HJ6, ⟨mc6, rfl⟩⟩ := hcut
    cases kq with
    | zero => exact absurd HA.out (by simp [cowrieref04_Parse.j1])
    | succ kj6 =>
     have H := HA.out
     clear HA
     simp only [cowrieref04_Parse.j1] at H
     have HC12 := bu H
     clear H
     go_upto_if 27 with (fail)
     go_cut [0] (fun v0 wc => ∃ (kq : Nat) (bA : ByteArray), v0 = .string bA ∧ Aside0 (cowrieref04_Parse.j2 kq bA x4_2 = some (r1, r2)) ∧ Aside0 (kq ≤ kj6) ∧ Drawn0 w wc)
     case first =>
      have H := HC12.out
      clear HC12
      by_cases c13 : x27_6 = true
      ·
       subst c13
       have H1 : (if 1 ≤ (bz.size : Int) then (cowrieref04_Parse.j2 kj6 (bz.extract 1 bz.size) x4_2) else (none)) = some (r1, r2) := by rw [if_pos rfl] at H; exact H
       clear H
       have H := H1
       clear H1
       by_cases c14 : 1 ≤ (bz.size : Int)
       ·
        rw [if_pos c14] at H
        have c14b0 := eq_true c14
        have c14b1 : decide (1 ≤ (bz.size : Int)) = true := decide_eq_true c14
        clear c14
        have H' := bu H
        clear H
        go_wp2
        go_meet
        case rel => exact ⟨_, (bz.extract 1 bz.size), (by first | rfl | (simp; done) | (simp [*]; done)), H', ⟨by have := HJ2.out; have := HJ6.out; first | omega | exact Nat.le_refl _⟩, by repeat (first | exact Drawn0.refl _ | apply Drawn0.step)⟩
       ·
        rw [if_neg c14] at H
        exact absurd H (by simp)
      ·
       replace c13 := Bool.eq_false_iff.mpr c13
       subst c13
       have H1 : (cowrieref04_Parse.j2 kj6 bz x4_2) = some (r1, r2) := by rw [if_neg (show ¬ (false = true) by decide)] at H; exact H
       clear H
       have H := H1
       clear H1
       have H' := bu H
       clear H
       go_wp2
       go_meet
       case rel => exact ⟨_, (bz), (by first | rfl | (simp; done) | (simp [*]; done)), H', ⟨by have := HJ2.out; have := HJ6.out; first | omega | exact Nat.le_refl _⟩, by repeat (first | exact Drawn0.refl _ | apply Drawn0.step)⟩
     case rest =>
      clear HC12
      try clear c1
      try clear p1
      try clear q1
      try clear hx1
      try clear qi1
      try clear c2
      try clear p2
      try clear c4
      try clear c4b0
      try clear c4b1
      try clear c5
      try clear c5b0
      try clear c5b1
      try clear c6
      try clear p6
      try clear q6
      try clear hx6
      try clear qi6
      try clear c8
      try clear c9
      try clear c9b0
      try clear c9b1
      try clear c10
      try clear c10b0
      try clear c10b1
      try clear p11
      try clear q11
      try clear hx11
      try clear qi11
      try clear c13
      try clear c14
      try clear c14b0
      try clear c14b1
      try clear p1
      try clear p11
      try clear p2
      try clear p6
      try clear q1
      try clear q11
      try clear q6
      obtain ⟨kq, bA, rfl, HA, HJ11, ⟨mc11, rfl⟩⟩ := hcut
      cases kq with
      | zero => exact absurd HA.out (by simp [cowrieref04_Parse.j2])
      | succ kj11 =>
       have H := HA.out
       clear HA
       simp only [cowrieref04_Parse.j2] at H
       replace H := Option.bind_eq_some_iff.mp H
       obtain ⟨⟨t242, t243⟩, A150, H⟩ := H
       replace H : (if t243 = true then (if x4_2 = true then (some (wrap64 (IntKind.u64.wrap (-t242)), 0)) else (some (wrap64 (t242), 0))) else (some (0, 33))) = some (r1, r2) := H
       have A15 := bu A150
       clear A150
       by_cases c16 : t243 = true
       ·
        subst c16
        have H1 : (if x4_2 = true then (some (wrap64 (IntKind.u64.wrap (-t242)), 0)) else (some (wrap64 (t242), 0))) = some (r1, r2) := by rw [if_pos rfl] at H; exact H
        clear H
        have H := H1
        clear H1
        by_cases c17 : x4_2 = true
        ·
         subst c17
         have H1 : (some (wrap64 (IntKind.u64.wrap (-t242)), 0)) = some (r1, r2) := by rw [if_pos rfl] at H; exact H
         clear H
         have H := H1
         clear H1
         simp only [Option.some.injEq, Prod.mk.injEq] at H
         obtain ⟨rfl, rfl⟩ := H
         go_wp2_with (first | ((with_reducible refine bv (f := 81) rfl ?_); refine goesL_ (some 32) rfl rfl Tryd.func81 (by kernel_rfl) rfl #[.string bA, .int .u64 10] rfl (by (try simp only [List.map_toArray, List.map_cons, List.map_nil]); first | done | rfl | (simp only [List.length_drop, List.length_take]; rfl)) ?_; (with_reducible refine (cowrieref04_digits.calls kj11 bA 10 t242 true _ A15.out).mono ?_); rintro e w' ⟨rfl, ⟨nd, rfl⟩⟩; refine ⟨_, rfl, ?_⟩))
         go_ret2
         exact ⟨by first | rfl | (simp; done) | (simp [*]; done), by repeat (first | exact Drawn0.refl _ | apply Drawn0.step)⟩
        ·
         replace c17 := Bool.eq_false_iff.mpr c17
         subst c17
         have H1 : (some (wrap64 (t242), 0)) = some (r1, r2) := by rw [if_neg (show ¬ (false = true) by decide)] at H; exact H
         clear H
         have H := H1
         clear H1
         simp only [Option.some.injEq, Prod.mk.injEq] at H
         obtain ⟨rfl, rfl⟩ := H
         go_wp2_with (first | ((with_reducible refine bv (f := 81) rfl ?_); refine goesL_ (some 32) rfl rfl Tryd.func81 (by kernel_rfl) rfl #[.string bA, .int .u64 10] rfl (by (try simp only [List.map_toArray, List.map_cons, List.map_nil]); first | done | rfl | (simp only [List.length_drop, List.length_take]; rfl)) ?_; (with_reducible refine (cowrieref04_digits.calls kj11 bA 10 t242 true _ A15.out).mono ?_); rintro e w' ⟨rfl, ⟨nd, rfl⟩⟩; refine ⟨_, rfl, ?_⟩))
         go_ret2
         exact ⟨by first | rfl | (simp; done) | (simp [*]; done), by repeat (first | exact Drawn0.refl _ | apply Drawn0.step)⟩
       ·
        replace c16 := Bool.eq_false_iff.mpr c16
        subst c16
        have H1 : (some (0, 33)) = some (r1, r2) := by rw [if_neg (show ¬ (false = true) by decide)] at H; exact H
        clear H
        have H := H1
        clear H1
        simp only [Option.some.injEq, Prod.mk.injEq] at H
        obtain ⟨rfl, rfl⟩ := H
        go_wp2_with (first | ((with_reducible refine bv (f := 81) rfl ?_); refine goesL_ (some 32) rfl rfl Tryd.func81 (by kernel_rfl) rfl #[.string bA, .int .u64 10] rfl (by (try simp only [List.map_toArray, List.map_cons, List.map_nil]); first | done | rfl | (simp only [List.length_drop, List.length_take]; rfl)) ?_; (with_reducible refine (cowrieref04_digits.calls kj11 bA 10 t242 false _ A15.out).mono ?_); rintro e w' ⟨rfl, ⟨nd, rfl⟩⟩; refine ⟨_, rfl, ?_⟩))
        go_ret2
        exact ⟨by first | rfl | (simp; done) | (simp [*]; done), by repeat (first | exact Drawn0.refl _ | apply Drawn0.step)⟩

/-! ### cowrieref20_argument: function 41 -/
mutual
def cowrieref20_argument.j1 : Nat → ByteArray → List (S53) → List ByteArray → Int → Option (ByteArray × Bool)
  | 0, _, _, _, _ => none
  | k + 1, x1, x245000, x245001, x245002 => (cowrieref04_Parse.f k x1).bind fun bt245 => (if x1.toList = ([] : List UInt8) then (some ((⟨#[115, 104]⟩ : ByteArray), true)) else (if (x1.size : Int) > 5 then (some ((⟨#[]⟩ : ByteArray), false)) else (if bt245.1 > (x245001.length : Int) then (some ((⟨#[]⟩ : ByteArray), false)) else (if 0 ≤ (wrap64 (bt245.1 - 1)) then (if (wrap64 (bt245.1 - 1)) < (x245001.length : Int) then (some (rdOf ByteArray.empty x245001 (wrap64 (bt245.1 - 1)), true)) else (none)) else (none)))))
def cowrieref20_argument.l0 : Nat → ByteArray → List (S53) → List ByteArray → Int → Option (ByteArray × Bool)
  | 0, _, _, _, _ => none
  | k + 1, x1, x245000, x245001, x245002 => if (x1.size : Int) > 0 then (if 0 < (x1.size : Int) then (if (bt x1 0) = 48 then (if 1 ≤ (x1.size : Int) then (cowrieref20_argument.l0 k (x1.extract 1 x1.size) x245000 x245001 x245002) else (none)) else (cowrieref20_argument.j1 k x1 x245000 x245001 x245002)) else (none)) else (cowrieref20_argument.j1 k x1 x245000 x245001 x245002)
end
def cowrieref20_argument.f (k : Nat) (l0_0 : List (S53)) (l0_1 : List ByteArray) (a0_2 : Int) (a1 : ByteArray) : Option (ByteArray × Bool) := cowrieref20_argument.l0 k a1 l0_0 l0_1 a0_2
set_option maxHeartbeats 8000000 in
set_option maxRecDepth 100000 in
theorem cowrieref20_argument.calls (k : Nat) (A0_0 : Option Addr) (c0_0 : Nat) (bE : List (S53)) (A0_1 : Option Addr) (c0_1 : Nat) (bB : List ByteArray) (a0_2 : Int) (a1 : ByteArray) (r1 : ByteArray) (r2 : Bool) (w : World) (hr0_0 : Kd.C k53 w A0_0 bE.length bE) (hc0_0 : bE.length ≤ c0_0) (hr0_1 : Kd.C Kd.string w A0_1 bB.length bB) (hc0_1 : bB.length ≤ c0_1) (h : cowrieref20_argument.f k bE bB a0_2 a1 = some (r1, r2)) :
  Calls Tryd.prog 41 #[.agg #[.slice A0_0 bE.length c0_0, .slice A0_1 bB.length c0_1, .int .i64 a0_2], .string a1] w fun e w' => e = .returned (.tuple #[.string r1, .bool r2]) ∧ Below w.heap.size w w' := by
 have hu25 := Tryd.underlying25
 have HR0_0 := bu hr0_0
 have HC0_0 := bu hc0_0
 clear hr0_0 hc0_0
 have HR0_1 := bu hr0_1
 have HC0_1 := bu hc0_1
 clear hr0_1 hc0_1
 have HB := bu (bw w.heap.size w)
 have H : (cowrieref20_argument.l0 k a1 bE bB a0_2) = some (r1, r2) := h
 clear h
 have HC3 := bu H
 clear H
 go_enter Tryd.func41, Tryd.ntmps41
 go_upto_block 0 with (first | ((with_reducible refine gate_dst (N := 2) rfl ?_); (try (refine gate_guard (by rfl) ?_; dsimp only)); refine box_event ?hg (N := 2) ?hd (cs := #[.slice A0_0 bE.length c0_0, .slice A0_1 bB.length c0_1, .int .i64 a0_2]) (t := 25) ?hr ?_; (case hd => rfl); (case hg => rfl); (case hr => first | (go_simp; done) | (go_simp; rfl)); intro bD hg w4 hbox hb; have n0_ := bu (below_step (by repeat (first | (with_reducible first | exact HB.out | apply bm | apply bj | apply bn) | exact HB.out)) hb); have n1_ := bu (hbox); have n2_ := bu ((by rw [hg]; exact (bs (by repeat (first | (with_reducible first | exact HB.out | apply bm | apply bj | apply bn) | exact HB.out))) : w.heap.size ≤ bD)); have n3_ := bu ((by rw [hg]; exact (bs (by repeat (first | (with_reducible first | exact HB.out | apply bm | apply bj | apply bn) | exact HB.out))) : w.heap.size ≤ bD)); clear HB; have HB := n0_; have bA := n1_; have GW244 := n2_; have bG := n3_; clear n0_ n1_ n2_ n3_; clear hb hbox hg))
 (try simp only [Act.put, List.setIfInBounds_toArray, List.set_cons_zero, List.set_cons_succ])
 go_cut [1] (fun v1 wc => ∃ (kq : Nat) (bC : ByteArray), v1 = .string bC ∧ Aside0 (cowrieref20_argument.j1 kq bC bE bB a0_2 = some (r1, r2)) ∧ Aside0 (kq ≤ k) ∧ Aside0 (wc.heap[bD]? = some (.cells #[(.slice A0_0 bE.length c0_0), (.slice A0_1 bB.length c0_1), .int .i64 a0_2] 25 (0, 0))) ∧ Aside0 (Below w.heap.size w wc))
 case first =>
  have H := HC3.out
  clear HC3
  have H' := bu H
  clear H
  go_wp2
  go_loopg [1] k (fun kq v1 w' => ∃ (bz : ByteArray), v1 = .string bz ∧ Aside0 (cowrieref20_argument.l0 kq bz bE bB a0_2 = some (r1, r2)) ∧ Aside0 (kq ≤ k) ∧ Aside0 (w'.heap[bD]? = some (.cells #[(.slice A0_0 bE.length c0_0), (.slice A0_1 bB.length c0_1), .int .i64 a0_2] 25 (0, 0))) ∧ Aside0 (Below w.heap.size w w'))
  case atStart => exact ⟨(a1), (by first | rfl | (simp; done) | (simp [*]; done)), H', ⟨Nat.le_refl _⟩, ⟨by (with_reducible repeat (first | refine a4 ?_ _ | refine bh ?_ | refine a5 ?_ _)); exact bA.out⟩, ⟨by repeat (first | (with_reducible first | exact HB.out | apply bm | apply bj | apply bn | refine bi ?_ bG.out) | exact HB.out)⟩⟩
  case round =>
   clear H'
   try clear p2
   try clear c4
   obtain ⟨bz, rfl, HA, HK1, bA, HB⟩ := hrel
   cases gk with
   | zero => exact absurd HA.out (by simp [cowrieref20_argument.l0])
   | succ k1 =>
    have H := HA.out
    clear HA
    simp only [cowrieref20_argument.l0] at H
    by_cases c5 : (bz.size : Int) > 0
    ·
     rw [if_pos c5] at H
     have c5b0 : decide (0 < (bz.size : Int)) = true := decide_eq_true c5
     have c5b1 : decide (0 < bz.size) = true := decide_eq_true (by omega)
     clear c5
     (first | rw [c5b0] | (simp only [i64_w, i32_w]; rw [c5b0]) | skip)
     by_cases c6 : 0 < (bz.size : Int)
     ·
      rw [if_pos c6] at H
      have c6b0 : decide (0 < (bz.size : Int)) = true := decide_eq_true c6
      have c6b1 : decide (0 < bz.size) = true := decide_eq_true (by omega)
      clear c6
      by_cases c8 : (bt bz 0) = 48
      ·
       rw [if_pos c8] at H
       have c8b0 : ((bt bz 0) == 48) = true := beq_iff_eq.mpr c8
       have c8b1 : ((bt bz 0) != 48) = false := bne_eq_false_iff_eq.mpr c8
       clear c8
       by_cases c9 : 1 ≤ (bz.size : Int)
       ·
        rw [if_pos c9] at H
        have c9b0 := eq_true c9
        have c9b1 : decide (1 ≤ (bz.size : Int)) = true := decide_eq_true c9
        clear c9
        have H' := bu H
        clear H
        have p7 : 0 ≤ (0 : Int) := (by omega)
        have q7 : 0 < bz.size := (by have : (0 : Int) < (bz.size : Int) := of_decide_eq_true (by first | (with_reducible assumption) | assumption); omega)
        have hx7 : ∀ h : 0 < bz.size, ((bz[0]'h).toNat : Int) = bt bz 0 := bt_at bz 0
        clear p7
        have qi7 : (0 < (bz.size : Int)) = True := eq_true (of_decide_eq_true (by first | (with_reducible assumption) | assumption))
        replace q7 := eq_true q7
        go_wp2
        go_roundg k1
        case measure => have := HK1.out; omega
        case rel => exact ⟨(bz.extract 1 bz.size), (by first | rfl | (simp; done) | (simp [*]; done)), H', ⟨by have := HK1.out; omega⟩, ⟨by (with_reducible repeat (first | refine a4 ?_ _ | refine bh ?_ | refine a5 ?_ _)); exact bA.out⟩, ⟨by repeat (first | (with_reducible first | exact HB.out | apply bm | apply bj | apply bn | refine bi ?_ bG.out) | exact HB.out)⟩⟩
       ·
        rw [if_neg c9] at H
        exact absurd H (by simp)
      ·
       rw [if_neg c8] at H
       have c8b0 : ((bt bz 0) == 48) = false := beq_eq_false_iff_ne.mpr c8
       have c8b1 : ((bt bz 0) != 48) = true := bne_iff_ne.mpr c8
       have H' := bu H
       clear H
       have p7 : 0 ≤ (0 : Int) := (by omega)
       have q7 : 0 < bz.size := (by have : (0 : Int) < (bz.size : Int) := of_decide_eq_true (by first | (with_reducible assumption) | assumption); omega)
       have hx7 : ∀ h : 0 < bz.size, ((bz[0]'h).toNat : Int) = bt bz 0 := bt_at bz 0
       clear p7
       have qi7 : (0 < (bz.size : Int)) = True := eq_true (of_decide_eq_true (by first | (with_reducible assumption) | assumption))
       replace q7 := eq_true q7
       go_wp2
       go_meet
       case rel => exact ⟨_, (bz), (by first | rfl | (simp; done) | (simp [*]; done)), H', ⟨by have := HK1.out; first | omega | exact Nat.le_refl _⟩, ⟨by (with_reducible repeat (first | refine a4 ?_ _ | refine bh ?_ | refine a5 ?_ _)); exact bA.out⟩, ⟨by repeat (first | (with_reducible first | exact HB.out | apply bm | apply bj | apply bn | refine bi ?_ bG.out) | exact HB.out)⟩⟩
     ·
      rw [if_neg c6] at H
      exact absurd H (by simp)
    ·
     rw [if_neg c5] at H
     have c5b0 : decide (0 < (bz.size : Int)) = false := decide_eq_false c5
     have c5b1 : decide (0 < bz.size) = false := decide_eq_false (by omega)
     clear c5
     (first | rw [c5b0] | (simp only [i64_w, i32_w]; rw [c5b0]) | skip)
     have H' := bu H
     clear H
     go_wp2
     go_meet
     case rel => exact ⟨_, (bz), (by first | rfl | (simp; done) | (simp [*]; done)), H', ⟨by have := HK1.out; first | omega | exact Nat.le_refl _⟩, ⟨by (with_reducible repeat (first | refine a4 ?_ _ | refine bh ?_ | refine a5 ?_ _)); exact bA.out⟩, ⟨by repeat (first | (with_reducible first | exact HB.out | apply bm | apply bj | apply bn | refine bi ?_ bG.out) | exact HB.out)⟩⟩
 case rest =>
  clear HC3
  try clear p2
  try clear c4
  try clear c5
  try clear c5b0
  try clear c5b1
  try clear c6
  try clear c6b0
  try clear c6b1
  try clear p7
  try clear q7
  try clear hx7
  try clear qi7
  try clear c8
  try clear c8b0
  try clear c8b1
  try clear c9
  try clear c9b0
  try clear c9b1
  try clear p2
  try clear p7
  try clear q7
  obtain ⟨kq, bC, rfl, HA, HJ2, bA, HB⟩ := hcut
  cases kq with
  | zero => exact absurd HA.out (by simp [cowrieref20_argument.j1])
  | succ kj2 =>
   have H := HA.out
   clear HA
   simp only [cowrieref20_argument.j1] at H
   replace H := Option.bind_eq_some_iff.mp H
   obtain ⟨⟨bF, t246⟩, A100, H⟩ := H
   replace H : (if bC.toList = ([] : List UInt8) then (some ((⟨#[115, 104]⟩ : ByteArray), true)) else (if (bC.size : Int) > 5 then (some ((⟨#[]⟩ : ByteArray), false)) else (if bF > (bB.length : Int) then (some ((⟨#[]⟩ : ByteArray), false)) else (if 0 ≤ (wrap64 (bF - 1)) then (if (wrap64 (bF - 1)) < (bB.length : Int) then (some (rdOf ByteArray.empty bB (wrap64 (bF - 1)), true)) else (none)) else (none))))) = some (r1, r2) := H
   have A10 := bu A100
   clear A100
   by_cases c11 : bC.toList = ([] : List UInt8)
   ·
    rw [if_pos c11] at H
    have c11b0 : (bC.toList == ([] : List UInt8)) = true := beq_iff_eq.mpr c11
    have c11b1 : (bC.toList != ([] : List UInt8)) = false := bne_eq_false_iff_eq.mpr c11
    clear c11
    simp only [Option.some.injEq, Prod.mk.injEq] at H
    obtain ⟨rfl, rfl⟩ := H
    go_wp2_with (first | ((with_reducible refine bv (f := 63) rfl ?_); refine goesL_ (some 20) rfl rfl Tryd.func63 (by kernel_rfl) rfl #[.string bC] rfl (by (try simp only [List.map_toArray, List.map_cons, List.map_nil]); first | done | rfl | (simp only [List.length_drop, List.length_take]; rfl)) ?_; (with_reducible refine (cowrieref04_Parse.calls kj2 bC bF t246 _ A10.out).mono ?_); rintro e w' ⟨rfl, ⟨nd, rfl⟩⟩; refine ⟨_, rfl, ?_⟩))
    go_ret2
    exact ⟨by first | rfl | (simp [errW_none, errW_some] <;> rfl) | (simp [*, errW_none, errW_some] <;> rfl), by repeat (first | (with_reducible first | exact HB.out | apply bm | apply bj | apply bn | refine bi ?_ bG.out) | exact HB.out)⟩
   ·
    rw [if_neg c11] at H
    have c11b0 : (bC.toList == ([] : List UInt8)) = false := beq_eq_false_iff_ne.mpr c11
    have c11b1 : (bC.toList != ([] : List UInt8)) = true := bne_iff_ne.mpr c11
    by_cases c12 : (bC.size : Int) > 5
    ·
     rw [if_pos c12] at H
     have c12b0 : decide (5 < (bC.size : Int)) = true := decide_eq_true c12
     have c12b1 : decide (5 < bC.size) = true := decide_eq_true (by omega)
     clear c12
     simp only [Option.some.injEq, Prod.mk.injEq] at H
     obtain ⟨rfl, rfl⟩ := H
     go_wp2_with (first | ((with_reducible refine bv (f := 63) rfl ?_); refine goesL_ (some 20) rfl rfl Tryd.func63 (by kernel_rfl) rfl #[.string bC] rfl (by (try simp only [List.map_toArray, List.map_cons, List.map_nil]); first | done | rfl | (simp only [List.length_drop, List.length_take]; rfl)) ?_; (with_reducible refine (cowrieref04_Parse.calls kj2 bC bF t246 _ A10.out).mono ?_); rintro e w' ⟨rfl, ⟨nd, rfl⟩⟩; refine ⟨_, rfl, ?_⟩))
     go_ret2
     exact ⟨by first | rfl | (simp [errW_none, errW_some] <;> rfl) | (simp [*, errW_none, errW_some] <;> rfl), by repeat (first | (with_reducible first | exact HB.out | apply bm | apply bj | apply bn | refine bi ?_ bG.out) | exact HB.out)⟩
    ·
     rw [if_neg c12] at H
     have c12b0 : decide (5 < (bC.size : Int)) = false := decide_eq_false c12
     have c12b1 : decide (5 < bC.size) = false := decide_eq_false (by omega)
     clear c12
     by_cases c13 : bF > (bB.length : Int)
     ·
      rw [if_pos c13] at H
      have c13b0 : decide ((bB.length : Int) < bF) = true := decide_eq_true c13
      clear c13
      simp only [Option.some.injEq, Prod.mk.injEq] at H
      obtain ⟨rfl, rfl⟩ := H
      go_wp2_with (first | ((with_reducible refine bv (f := 63) rfl ?_); refine goesL_ (some 20) rfl rfl Tryd.func63 (by kernel_rfl) rfl #[.string bC] rfl (by (try simp only [List.map_toArray, List.map_cons, List.map_nil]); first | done | rfl | (simp only [List.length_drop, List.length_take]; rfl)) ?_; (with_reducible refine (cowrieref04_Parse.calls kj2 bC bF t246 _ A10.out).mono ?_); rintro e w' ⟨rfl, ⟨nd, rfl⟩⟩; refine ⟨_, rfl, ?_⟩; have hcz14_0 : wc.cell? ⟨bD, 0, none⟩ = some (.slice A0_0 bE.length c0_0) := (bo bA.out 0).trans rfl; have hcz14_1 : wc.cell? ⟨bD, 1, none⟩ = some (.slice A0_1 bB.length c0_1) := (bo bA.out 1).trans rfl; have hcz14_2 : wc.cell? ⟨bD, 2, none⟩ = some (.int .i64 a0_2) := (bo bA.out 2).trans rfl; have hfz14_0 := bk bA.out 0; have hfz14_1 := bk bA.out 1; have hfz14_2 := bk bA.out 2))
      go_ret2
      exact ⟨by first | rfl | (simp [errW_none, errW_some] <;> rfl) | (simp [*, errW_none, errW_some] <;> rfl), by repeat (first | (with_reducible first | exact HB.out | apply bm | apply bj | apply bn | refine bi ?_ bG.out) | exact HB.out)⟩
     ·
      rw [if_neg c13] at H
      have c13b0 : decide ((bB.length : Int) < bF) = false := decide_eq_false c13
      clear c13
      obtain ⟨ji15, hji15⟩ : ∃ j_ : Int, (wrap64 (bF - 1)) = j_ := ⟨_, rfl⟩
      replace H : (if 0 ≤ (ji15) then (if (ji15) < (bB.length : Int) then (some (rdOf ByteArray.empty bB (ji15), true)) else (none)) else (none)) = some (r1, r2) := by first | (rw [hji15] at H; exact H) | (simp only [hji15] at H ⊢; exact H)
      (try rw [hji15] at A10)
      have hji15w : (IntKind.i64.wrap (bF - 1)) = ji15 := (i64_w _).trans hji15
      by_cases c16 : 0 ≤ (ji15)
      ·
       rw [if_pos c16] at H
       have c16b0 : decide (0 ≤ (ji15)) = true := decide_eq_true c16
       clear c16
       by_cases c17 : (ji15) < (bB.length : Int)
       ·
        rw [if_pos c17] at H
        have c17b0 : decide ((ji15) < (bB.length : Int)) = true := decide_eq_true c17
        clear c17
        simp only [Option.some.injEq, Prod.mk.injEq] at H
        obtain ⟨rfl, rfl⟩ := H
        go_wp2_with (first | ((with_reducible refine bv (f := 63) rfl ?_); refine goesL_ (some 20) rfl rfl Tryd.func63 (by kernel_rfl) rfl #[.string bC] rfl (by (try simp only [List.map_toArray, List.map_cons, List.map_nil]); first | done | rfl | (simp only [List.length_drop, List.length_take]; rfl)) ?_; (with_reducible refine (cowrieref04_Parse.calls kj2 bC bF t246 _ A10.out).mono ?_); rintro e w' ⟨rfl, ⟨nd, rfl⟩⟩; refine ⟨_, rfl, ?_⟩; have hcz18_0 : wc.cell? ⟨bD, 0, none⟩ = some (.slice A0_0 bE.length c0_0) := (bo bA.out 0).trans rfl; have hcz18_1 : wc.cell? ⟨bD, 1, none⟩ = some (.slice A0_1 bB.length c0_1) := (bo bA.out 1).trans rfl; have hcz18_2 : wc.cell? ⟨bD, 2, none⟩ = some (.int .i64 a0_2) := (bo bA.out 2).trans rfl; have hfz18_0 := bk bA.out 0; have hfz18_1 := bk bA.out 1; have hfz18_2 := bk bA.out 2; have p247 : 0 ≤ ((ji15) : Int) := of_decide_eq_true (by first | (with_reducible assumption) | assumption); have q247 : (ji15) < (bB.length : Int) := of_decide_eq_true (by first | (with_reducible assumption) | assumption); obtain ⟨ad247, e247, hx247_0⟩ := Kd.at_string HR0_1.out (ji15) p247 q247; cases e247; replace hx247_0 := (HB.out.cell (World.block_lt_of_cell? w _ hx247_0)).trans hx247_0; replace p247 := eq_true p247; replace q247 := eq_true q247))
        go_ret2
        exact ⟨by first | rfl | (simp [errW_none, errW_some] <;> rfl) | (simp only [← hji15]; first | rfl | (simp [errW_none, errW_some] <;> rfl)) | (simp [*, errW_none, errW_some] <;> rfl), by repeat (first | (with_reducible first | exact HB.out | apply bm | apply bj | apply bn | refine bi ?_ bG.out) | exact HB.out)⟩
       ·
        rw [if_neg c17] at H
        exact absurd H (by simp)
      ·
       rw [if_neg c16] at H
       exact absurd H (by simp)

end Go.Proofs.YtpljochiegallaaDoor.XVB
