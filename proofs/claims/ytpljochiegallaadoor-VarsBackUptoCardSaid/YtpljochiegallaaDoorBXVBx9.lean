-- WRITTEN BY xprint.py, a program of this session (over the kit's print)
import Derived.Test.YtpljochiegallaaDoorBXVBx0
namespace Go.Proofs.YtpljochiegallaaDoor.XVB
open Go.RowKit Go.Proofs.YtpljochiegallaaDoorW.PrintWords Go.Proofs.YtpljochiegallaaDoorW.PrintLast Go.Proofs.YtpljochiegallaaDoorW.PrintMore
attribute [local go_sem] max2_int min2_int max_two min_two max_three min_three max_four min_four   -- for this text's walks alone
set_option linter.unusedVariables false
set_option linter.unusedSimpArgs false

/-! ### cowrieref04_Trim: function 80 -/
mutual
def cowrieref04_Trim.j1 : Nat → ByteArray → Option (ByteArray)
  | 0, _ => none
  | k + 1, x0 => cowrieref04_Trim.l1 k x0
def cowrieref04_Trim.l1 : Nat → ByteArray → Option (ByteArray)
  | 0, _ => none
  | k + 1, x0 => if (x0.size : Int) > 0 then (if 0 ≤ (wrap64 ((x0.size : Int) - 1)) then (if (wrap64 ((x0.size : Int) - 1)) < (x0.size : Int) then (if (bt x0 (wrap64 ((x0.size : Int) - 1))) = 32 then (if (wrap64 ((x0.size : Int) - 1)) ≤ (x0.size : Int) then (cowrieref04_Trim.l1 k (x0.extract 0 ((wrap64 ((x0.size : Int) - 1)) : Int).toNat)) else (none)) else (if (bt x0 (wrap64 ((x0.size : Int) - 1))) = 9 then (if (wrap64 ((x0.size : Int) - 1)) ≤ (x0.size : Int) then (cowrieref04_Trim.l1 k (x0.extract 0 ((wrap64 ((x0.size : Int) - 1)) : Int).toNat)) else (none)) else (some x0))) else (none)) else (none)) else (some x0)
def cowrieref04_Trim.l0 : Nat → ByteArray → Option (ByteArray)
  | 0, _ => none
  | k + 1, x0 => if (x0.size : Int) > 0 then (if 0 < (x0.size : Int) then (if (bt x0 0) = 32 then (if 1 ≤ (x0.size : Int) then (cowrieref04_Trim.l0 k (x0.extract 1 x0.size)) else (none)) else (if (bt x0 0) = 9 then (if 1 ≤ (x0.size : Int) then (cowrieref04_Trim.l0 k (x0.extract 1 x0.size)) else (none)) else (cowrieref04_Trim.j1 k x0))) else (none)) else (cowrieref04_Trim.j1 k x0)
end
def cowrieref04_Trim.f (k : Nat) (a0 : ByteArray) : Option (ByteArray) := cowrieref04_Trim.l0 k a0
set_option maxHeartbeats 8000000 in
set_option maxRecDepth 100000 in
theorem cowrieref04_Trim.calls (k : Nat) (a0 : ByteArray) (r : ByteArray) (w : World) (h : cowrieref04_Trim.f k a0 = some r) :
  Calls Tryd.prog 80 #[.string a0] w fun e w' => e = .returned (.string r) ∧ Drawn0 w w' := by
 have H : (cowrieref04_Trim.l0 k a0) = some r := h
 clear h
 have HC2 := bu H
 clear H
 go_enter Tryd.func80, Tryd.ntmps80
 go_upto_block 0 with (fail)
 go_cut [0] (fun v0 wc => ∃ (kq : Nat) (bz : ByteArray), v0 = .string bz ∧ Aside0 (cowrieref04_Trim.j1 kq bz = some r) ∧ Aside0 (kq ≤ k) ∧ Drawn0 w wc)
 case first =>
  have H := HC2.out
  clear HC2
  have H' := bu H
  clear H
  go_wp2
  go_loopg [0] k (fun kq v0 w' => ∃ (bz : ByteArray), v0 = .string bz ∧ Aside0 (cowrieref04_Trim.l0 kq bz = some r) ∧ Aside0 (kq ≤ k) ∧ Drawn0 w w')
  case atStart => exact ⟨(a0), (by first | rfl | (simp; done) | (simp [*]; done)), H', ⟨Nat.le_refl _⟩, by repeat (first | exact Drawn0.refl _ | apply Drawn0.step)⟩
  case round =>
   clear H'
   try clear p2
   obtain ⟨bz, rfl, HA, HK1, ⟨m1, rfl⟩⟩ := hrel
   cases gk with
   | zero => exact absurd HA.out (by simp [cowrieref04_Trim.l0])
   | succ k1 =>
    have H := HA.out
    clear HA
    simp only [cowrieref04_Trim.l0] at H
    by_cases c3 : (bz.size : Int) > 0
    ·
     rw [if_pos c3] at H
     have c3b0 : decide (0 < (bz.size : Int)) = true := decide_eq_true c3
     have c3b1 : decide (0 < bz.size) = true := decide_eq_true (by omega)
     clear c3
     (first | rw [c3b0] | (simp only [i64_w, i32_w]; rw [c3b0]) | skip)
     by_cases c4 : 0 < (bz.size : Int)
     ·
      rw [if_pos c4] at H
      have c4b0 : decide (0 < (bz.size : Int)) = true := decide_eq_true c4
      have c4b1 : decide (0 < bz.size) = true := decide_eq_true (by omega)
      clear c4
      by_cases c6 : (bt bz 0) = 32
      ·
       rw [if_pos c6] at H
       have c6b0 : ((bt bz 0) == 32) = true := beq_iff_eq.mpr c6
       have c6b1 : ((bt bz 0) != 32) = false := bne_eq_false_iff_eq.mpr c6
       clear c6
       by_cases c7 : 1 ≤ (bz.size : Int)
       ·
        rw [if_pos c7] at H
        have c7b0 := eq_true c7
        have c7b1 : decide (1 ≤ (bz.size : Int)) = true := decide_eq_true c7
        clear c7
        have H' := bu H
        clear H
        have p5 : 0 ≤ (0 : Int) := (by omega)
        have q5 : 0 < bz.size := (by have : (0 : Int) < (bz.size : Int) := of_decide_eq_true (by first | (with_reducible assumption) | assumption); omega)
        have hx5 : ∀ h : 0 < bz.size, ((bz[0]'h).toNat : Int) = bt bz 0 := bt_at bz 0
        clear p5
        have qi5 : (0 < (bz.size : Int)) = True := eq_true (of_decide_eq_true (by first | (with_reducible assumption) | assumption))
        replace q5 := eq_true q5
        go_wp2
        go_roundg k1
        case measure => have := HK1.out; omega
        case rel => exact ⟨(bz.extract 1 bz.size), (by first | rfl | (simp; done) | (simp [*]; done)), H', ⟨by have := HK1.out; omega⟩, by repeat (first | exact Drawn0.refl _ | apply Drawn0.step)⟩
       ·
        rw [if_neg c7] at H
        exact absurd H (by simp)
      ·
       rw [if_neg c6] at H
       have c6b0 : ((bt bz 0) == 32) = false := beq_eq_false_iff_ne.mpr c6
       have c6b1 : ((bt bz 0) != 32) = true := bne_iff_ne.mpr c6
       by_cases c9 : (bt bz 0) = 9
       ·
        rw [if_pos c9] at H
        have c9b0 : ((bt bz 0) == 9) = true := beq_iff_eq.mpr c9
        have c9b1 : ((bt bz 0) != 9) = false := bne_eq_false_iff_eq.mpr c9
        clear c9
        by_cases c10 : 1 ≤ (bz.size : Int)
        ·
         rw [if_pos c10] at H
         have c10b0 := eq_true c10
         have c10b1 : decide (1 ≤ (bz.size : Int)) = true := decide_eq_true c10
         clear c10
         have H' := bu H
         clear H
         have p5 : 0 ≤ (0 : Int) := (by omega)
         have q5 : 0 < bz.size := (by have : (0 : Int) < (bz.size : Int) := of_decide_eq_true (by first | (with_reducible assumption) | assumption); omega)
         have hx5 : ∀ h : 0 < bz.size, ((bz[0]'h).toNat : Int) = bt bz 0 := bt_at bz 0
         clear p5
         have qi5 : (0 < (bz.size : Int)) = True := eq_true (of_decide_eq_true (by first | (with_reducible assumption) | assumption))
         replace q5 := eq_true q5
         have p8 : 0 ≤ (0 : Int) := (by omega)
         have q8 : 0 < bz.size := (by have : (0 : Int) < (bz.size : Int) := of_decide_eq_true (by first | (with_reducible assumption) | assumption); omega)
         have hx8 : ∀ h : 0 < bz.size, ((bz[0]'h).toNat : Int) = bt bz 0 := bt_at bz 0
         clear p8
         have qi8 : (0 < (bz.size : Int)) = True := eq_true (of_decide_eq_true (by first | (with_reducible assumption) | assumption))
         replace q8 := eq_true q8
         go_wp2
         go_roundg k1
         case measure => have := HK1.out; omega
         case rel => exact ⟨(bz.extract 1 bz.size), (by first | rfl | (simp; done) | (simp [*]; done)), H', ⟨by have := HK1.out; omega⟩, by repeat (first | exact Drawn0.refl _ | apply Drawn0.step)⟩
        ·
         rw [if_neg c10] at H
         exact absurd H (by simp)
       ·
        rw [if_neg c9] at H
        have c9b0 : ((bt bz 0) == 9) = false := beq_eq_false_iff_ne.mpr c9
        have c9b1 : ((bt bz 0) != 9) = true := bne_iff_ne.mpr c9
        have H' := bu H
        clear H
        have p5 : 0 ≤ (0 : Int) := (by omega)
        have q5 : 0 < bz.size := (by have : (0 : Int) < (bz.size : Int) := of_decide_eq_true (by first | (with_reducible assumption) | assumption); omega)
        have hx5 : ∀ h : 0 < bz.size, ((bz[0]'h).toNat : Int) = bt bz 0 := bt_at bz 0
        clear p5
        have qi5 : (0 < (bz.size : Int)) = True := eq_true (of_decide_eq_true (by first | (with_reducible assumption) | assumption))
        replace q5 := eq_true q5
        have p8 : 0 ≤ (0 : Int) := (by omega)
        have q8 : 0 < bz.size := (by have : (0 : Int) < (bz.size : Int) := of_decide_eq_true (by first | (with_reducible assumption) | assumption); omega)
        have hx8 : ∀ h : 0 < bz.size, ((bz[0]'h).toNat : Int) = bt bz 0 := bt_at bz 0
        clear p8
        have qi8 : (0 < (bz.size : Int)) = True := eq_true (of_decide_eq_true (by first | (with_reducible assumption) | assumption))
        replace q8 := eq_true q8
        go_wp2
        go_meet
        case rel => exact ⟨_, (bz), (by first | rfl | (simp; done) | (simp [*]; done)), H', ⟨by have := HK1.out; first | omega | exact Nat.le_refl _⟩, by repeat (first | exact Drawn0.refl _ | apply Drawn0.step)⟩
     ·
      rw [if_neg c4] at H
      exact absurd H (by simp)
    ·
     rw [if_neg c3] at H
     have c3b0 : decide (0 < (bz.size : Int)) = false := decide_eq_false c3
     have c3b1 : decide (0 < bz.size) = false := decide_eq_false (by omega)
     clear c3
     (first | rw [c3b0] | (simp only [i64_w, i32_w]; rw [c3b0]) | skip)
     have H' := bu H
     clear H
     go_wp2
     go_meet
     case rel => exact ⟨_, (bz), (by first | rfl | (simp; done) | (simp [*]; done)), H', ⟨by have := HK1.out; first | omega | exact Nat.le_refl _⟩, by repeat (first | exact Drawn0.refl _ | apply Drawn0.step)⟩
 case rest =>
  clear HC2
  try clear c1
  try clear p2
  try clear c3
  try clear c3b0
  try clear c3b1
  try clear c4
  try clear c4b0
  try clear c4b1
  try clear p5
  try clear q5
  try clear hx5
  try clear qi5
  try clear c6
  try clear c6b0
  try clear c6b1
  try clear c7
  try clear c7b0
  try clear c7b1
  try clear c8
  try clear p8
  try clear q8
  try clear hx8
  try clear qi8
  try clear c9
  try clear c9b0
  try clear c9b1
  try clear c10
  try clear c10b0
  try clear c10b1
  try clear p2
  try clear p5
  try clear p8
  try clear q5
  try clear q8
  obtain ⟨kq, bz, rfl, HA, HJ1, ⟨mc1, rfl⟩⟩ := hcut
  cases kq with
  | zero => exact absurd HA.out (by simp [cowrieref04_Trim.j1])
  | succ kj1 =>
   have H := HA.out
   clear HA
   simp only [cowrieref04_Trim.j1] at H
   have H' := bu H
   clear H
   go_wp2
   go_loopg [0] kj1 (fun kq v0 w' => ∃ (bA : ByteArray), v0 = .string bA ∧ Aside0 (cowrieref04_Trim.l1 kq bA = some r) ∧ Aside0 (kq ≤ kj1) ∧ Drawn0 w w')
   case atStart => exact ⟨(bz), (by first | rfl | (simp; done) | (simp [*]; done)), H', ⟨Nat.le_refl _⟩, by repeat (first | exact Drawn0.refl _ | apply Drawn0.step)⟩
   case round =>
    clear H'
    try clear c1
    try clear p2
    try clear c3
    try clear c3b0
    try clear c3b1
    try clear c4
    try clear c4b0
    try clear c4b1
    try clear p5
    try clear q5
    try clear hx5
    try clear qi5
    try clear c6
    try clear c6b0
    try clear c6b1
    try clear c7
    try clear c7b0
    try clear c7b1
    try clear c8
    try clear p8
    try clear q8
    try clear hx8
    try clear qi8
    try clear c9
    try clear c9b0
    try clear c9b1
    try clear c10
    try clear c10b0
    try clear c10b1
    try clear p2
    try clear p5
    try clear p8
    try clear q5
    try clear q8
    obtain ⟨bA, rfl, HA, HK2, ⟨m2, rfl⟩⟩ := hrel
    cases gk with
    | zero => exact absurd HA.out (by simp [cowrieref04_Trim.l1])
    | succ k2 =>
     have H := HA.out
     clear HA
     simp only [cowrieref04_Trim.l1] at H
     by_cases c11 : (bA.size : Int) > 0
     ·
      rw [if_pos c11] at H
      have c11b0 : decide (0 < (bA.size : Int)) = true := decide_eq_true c11
      have c11b1 : decide (0 < bA.size) = true := decide_eq_true (by omega)
      clear c11
      obtain ⟨ji12, hji12⟩ : ∃ j_ : Int, (wrap64 ((bA.size : Int) - 1)) = j_ := ⟨_, rfl⟩
      replace H : (if 0 ≤ (ji12) then (if (ji12) < (bA.size : Int) then (if (bt bA (ji12)) = 32 then (if (ji12) ≤ (bA.size : Int) then (cowrieref04_Trim.l1 k2 (bA.extract 0 ((ji12) : Int).toNat)) else (none)) else (if (bt bA (ji12)) = 9 then (if (ji12) ≤ (bA.size : Int) then (cowrieref04_Trim.l1 k2 (bA.extract 0 ((ji12) : Int).toNat)) else (none)) else (some bA))) else (none)) else (none)) = some r := by first | (rw [hji12] at H; exact H) | (simp only [hji12] at H ⊢; exact H)
      have hji12w : (IntKind.i64.wrap ((bA.size : Int) - 1)) = ji12 := (i64_w _).trans hji12
      by_cases c13 : 0 ≤ (ji12)
      ·
       rw [if_pos c13] at H
       have c13b0 : decide (0 ≤ (ji12)) = true := decide_eq_true c13
       clear c13
       by_cases c14 : (ji12) < (bA.size : Int)
       ·
        rw [if_pos c14] at H
        have c14b0 : decide ((ji12) < (bA.size : Int)) = true := decide_eq_true c14
        clear c14
        by_cases c16 : (bt bA (ji12)) = 32
        ·
         rw [if_pos c16] at H
         have c16b0 : ((bt bA (ji12)) == 32) = true := beq_iff_eq.mpr c16
         have c16b1 : ((bt bA (ji12)) != 32) = false := bne_eq_false_iff_eq.mpr c16
         clear c16
         have c17b0 := eq_true (of_decide_eq_true (by first | (with_reducible assumption) | assumption) : 0 ≤ (ji12))
         by_cases c18 : (ji12) ≤ (bA.size : Int)
         ·
          rw [if_pos c18] at H
          have c18b0 := eq_true c18
          have c18b1 : decide ((ji12) ≤ (bA.size : Int)) = true := decide_eq_true c18
          clear c18
          have H' := bu H
          clear H
          have p15 : 0 ≤ ((ji12) : Int) := of_decide_eq_true (by first | (with_reducible assumption) | assumption)
          have q15 : (ji12) < (bA.size : Int) := of_decide_eq_true (by first | (with_reducible assumption) | assumption)
          have hx15 := bt_at bA (ji12)
          replace p15 := eq_true p15
          replace q15 := eq_true q15
          go_wp2
          go_roundg k2
          case measure => have := HJ1.out; have := HK2.out; omega
          case rel => exact ⟨(bA.extract 0 ((ji12) : Int).toNat), (by first | rfl | (simp; done) | (simp only [← hji12] <;> (first | rfl | simp)) | (simp [*]; done)), H', ⟨by have := HJ1.out; have := HK2.out; omega⟩, by repeat (first | exact Drawn0.refl _ | apply Drawn0.step)⟩
         ·
          rw [if_neg c18] at H
          exact absurd H (by simp)
        ·
         rw [if_neg c16] at H
         have c16b0 : ((bt bA (ji12)) == 32) = false := beq_eq_false_iff_ne.mpr c16
         have c16b1 : ((bt bA (ji12)) != 32) = true := bne_iff_ne.mpr c16
         by_cases c20 : (bt bA (ji12)) = 9
         ·
          rw [if_pos c20] at H
          have c20b0 : ((bt bA (ji12)) == 9) = true := beq_iff_eq.mpr c20
          have c20b1 : ((bt bA (ji12)) != 9) = false := bne_eq_false_iff_eq.mpr c20
          clear c20
          have c21b0 := eq_true (of_decide_eq_true (by first | (with_reducible assumption) | assumption) : 0 ≤ (ji12))
          by_cases c22 : (ji12) ≤ (bA.size : Int)
          ·
           rw [if_pos c22] at H
           have c22b0 := eq_true c22
           have c22b1 : decide ((ji12) ≤ (bA.size : Int)) = true := decide_eq_true c22
           clear c22
           have H' := bu H
           clear H
           have p15 : 0 ≤ ((ji12) : Int) := of_decide_eq_true (by first | (with_reducible assumption) | assumption)
           have q15 : (ji12) < (bA.size : Int) := of_decide_eq_true (by first | (with_reducible assumption) | assumption)
           have hx15 := bt_at bA (ji12)
           replace p15 := eq_true p15
           replace q15 := eq_true q15
           have p19 : 0 ≤ ((ji12) : Int) := of_decide_eq_true (by first | (with_reducible assumption) | assumption)
           have q19 : (ji12) < (bA.size : Int) := of_decide_eq_true (by first | (with_reducible assumption) | assumption)
           have hx19 := bt_at bA (ji12)
           replace p19 := eq_true p19
           replace q19 := eq_true q19
           go_wp2
           go_roundg k2
           case measure => have := HJ1.out; have := HK2.out; omega
           case rel => exact ⟨(bA.extract 0 ((ji12) : Int).toNat), (by first | rfl | (simp; done) | (simp only [← hji12] <;> (first | rfl | simp)) | (simp [*]; done)), H', ⟨by have := HJ1.out; have := HK2.out; omega⟩, by repeat (first | exact Drawn0.refl _ | apply Drawn0.step)⟩
          ·
           rw [if_neg c22] at H
           exact absurd H (by simp)
         ·
          rw [if_neg c20] at H
          have c20b0 : ((bt bA (ji12)) == 9) = false := beq_eq_false_iff_ne.mpr c20
          have c20b1 : ((bt bA (ji12)) != 9) = true := bne_iff_ne.mpr c20
          obtain rfl := Option.some.inj H
          have p15 : 0 ≤ ((ji12) : Int) := of_decide_eq_true (by first | (with_reducible assumption) | assumption)
          have q15 : (ji12) < (bA.size : Int) := of_decide_eq_true (by first | (with_reducible assumption) | assumption)
          have hx15 := bt_at bA (ji12)
          replace p15 := eq_true p15
          replace q15 := eq_true q15
          have p19 : 0 ≤ ((ji12) : Int) := of_decide_eq_true (by first | (with_reducible assumption) | assumption)
          have q19 : (ji12) < (bA.size : Int) := of_decide_eq_true (by first | (with_reducible assumption) | assumption)
          have hx19 := bt_at bA (ji12)
          replace p19 := eq_true p19
          replace q19 := eq_true q19
          go_wp2
          go_ret
          exact ⟨by first | rfl | (simp; done) | (simp only [← hji12] <;> (first | rfl | simp)) | (simp [*]; done), by repeat (first | exact Drawn0.refl _ | apply Drawn0.step)⟩
       ·
        rw [if_neg c14] at H
        exact absurd H (by simp)
      ·
       rw [if_neg c13] at H
       exact absurd H (by simp)
     ·
      rw [if_neg c11] at H
      have c11b0 : decide (0 < (bA.size : Int)) = false := decide_eq_false c11
      have c11b1 : decide (0 < bA.size) = false := decide_eq_false (by omega)
      clear c11
      obtain rfl := Option.some.inj H
      go_wp2
      go_ret
      exact ⟨by first | rfl | (simp; done) | (simp [*]; done), by repeat (first | exact Drawn0.refl _ | apply Drawn0.step)⟩

/-! ### cowrieref04_digits: function 81 -/
mutual
def cowrieref04_digits.l0 : Nat → ByteArray → Int → Int → Int → Option (Int × Bool)
  | 0, _, _, _, _ => none
  | k + 1, x0, x1, x6, x7 => if x7 < (x0.size : Int) then (if 0 ≤ x7 then (if (bt x0 x7) ≥ 48 then (cowrieref04_digits.j1 k x0 x1 x6 x7 (bt x0 x7) 99 (decide ((bt x0 x7) ≤ 57))) else (cowrieref04_digits.j1 k x0 x1 x6 x7 (bt x0 x7) 99 false)) else (none)) else (some (x6, decide ((x0.size : Int) > 0)))
def cowrieref04_digits.j1 : Nat → ByteArray → Int → Int → Int → Int → Int → Bool → Option (Int × Bool)
  | 0, _, _, _, _, _, _, _ => none
  | k + 1, x0, x1, x6, x7, x8, x9, x19 => if x19 = true then (if ((x8 - 48) % 256) ≥ x1 then (some (0, false)) else (cowrieref04_digits.l0 k x0 x1 (IntKind.u64.wrap ((IntKind.u64.wrap (x6 * x1)) + ((x8 - 48) % 256))) (wrap64 (x7 + 1)))) else (if x8 ≥ 97 then (cowrieref04_digits.j2 k x0 x1 x6 x7 x8 x9 (decide (x8 ≤ 102))) else (cowrieref04_digits.j2 k x0 x1 x6 x7 x8 x9 false))
def cowrieref04_digits.j2 : Nat → ByteArray → Int → Int → Int → Int → Int → Bool → Option (Int × Bool)
  | 0, _, _, _, _, _, _, _ => none
  | k + 1, x0, x1, x6, x7, x8, x9, x29 => if x29 = true then (if (((x8 - 97) % 256) + 10) ≥ x1 then (some (0, false)) else (cowrieref04_digits.l0 k x0 x1 (IntKind.u64.wrap ((IntKind.u64.wrap (x6 * x1)) + (((x8 - 97) % 256) + 10))) (wrap64 (x7 + 1)))) else (if x8 ≥ 65 then (cowrieref04_digits.j3 k x0 x1 x6 x7 x8 x9 (decide (x8 ≤ 70))) else (cowrieref04_digits.j3 k x0 x1 x6 x7 x8 x9 false))
def cowrieref04_digits.j3 : Nat → ByteArray → Int → Int → Int → Int → Int → Bool → Option (Int × Bool)
  | 0, _, _, _, _, _, _, _ => none
  | k + 1, x0, x1, x6, x7, x8, x9, x40 => if x40 = true then (if (((x8 - 65) % 256) + 10) ≥ x1 then (some (0, false)) else (cowrieref04_digits.l0 k x0 x1 (IntKind.u64.wrap ((IntKind.u64.wrap (x6 * x1)) + (((x8 - 65) % 256) + 10))) (wrap64 (x7 + 1)))) else (if x9 ≥ x1 then (some (0, false)) else (cowrieref04_digits.l0 k x0 x1 (IntKind.u64.wrap ((IntKind.u64.wrap (x6 * x1)) + x9)) (wrap64 (x7 + 1))))
end
def cowrieref04_digits.f (k : Nat) (a0 : ByteArray) (a1 : Int) : Option (Int × Bool) := cowrieref04_digits.l0 k a0 a1 0 0
set_option maxHeartbeats 8000000 in
set_option maxRecDepth 100000 in
theorem cowrieref04_digits.calls (k : Nat) (a0 : ByteArray) (a1 : Int) (r1 : Int) (r2 : Bool) (w : World) (h : cowrieref04_digits.f k a0 a1 = some (r1, r2)) :
  Calls Tryd.prog 81 #[.string a0, .int .u64 a1] w fun e w' => e = .returned (.tuple #[.int .u64 r1, .bool r2]) ∧ Drawn0 w w' := by
 have H : (cowrieref04_digits.l0 k a0 a1 0 0) = some (r1, r2) := h
 clear h
 have H' := bu H
 clear H
 go_enter Tryd.func81, Tryd.ntmps81
 go_wp2
 go_loopg [6, 7] k (fun kq v6 v7 w' => ∃ (bA : Int) (bz : Int), v6 = .int .u64 bA ∧ v7 = .int .i64 bz ∧ Aside0 (cowrieref04_digits.l0 kq a0 a1 bA bz = some (r1, r2)) ∧ Aside0 (kq ≤ k) ∧ Drawn0 w w')
 case atStart => exact ⟨(0), (0), (by first | rfl | (simp; done) | (simp [*]; done)), (by first | rfl | (simp; done) | (simp [*]; done)), H', ⟨Nat.le_refl _⟩, by repeat (first | exact Drawn0.refl _ | apply Drawn0.step)⟩
 case round =>
  clear H'
  try clear p2
  obtain ⟨bA, bz, rfl, rfl, HA, HK1, ⟨m1, rfl⟩⟩ := hrel
  cases gk with
  | zero => exact absurd HA.out (by simp [cowrieref04_digits.l0])
  | succ k1 =>
   have H := HA.out
   clear HA
   simp only [cowrieref04_digits.l0] at H
   by_cases c3 : bz < (a0.size : Int)
   ·
    rw [if_pos c3] at H
    have c3b0 : decide (bz < (a0.size : Int)) = true := decide_eq_true c3
    clear c3
    by_cases c4 : 0 ≤ bz
    ·
     rw [if_pos c4] at H
     have c4b0 : decide (0 ≤ bz) = true := decide_eq_true c4
     clear c4
     have HC6 := bu H
     clear H
     have p5 : 0 ≤ (bz : Int) := of_decide_eq_true (by first | (with_reducible assumption) | assumption)
     have q5 : bz < (a0.size : Int) := of_decide_eq_true (by first | (with_reducible assumption) | assumption)
     have hx5 := bt_at a0 bz
     replace p5 := eq_true p5
     replace q5 := eq_true q5
     go_upto_region 7 with (fail)
     go_cut [19] (fun v19 wc => ∃ (kq : Nat) (x19_5 : Bool), v19 = .bool x19_5 ∧ Aside0 (cowrieref04_digits.j1 kq a0 a1 bA bz (bt a0 bz) 99 x19_5 = some (r1, r2)) ∧ Aside0 (kq ≤ k1) ∧ Drawn0 w wc)
     case first =>
      have H := HC6.out
      clear HC6
      by_cases c7 : (bt a0 bz) ≥ 48
      ·
       rw [if_pos c7] at H
       have c7b0 : decide (48 ≤ (bt a0 bz)) = true := decide_eq_true c7
       clear c7
       (first | rw [c7b0] | (simp only [i64_w, i32_w]; rw [c7b0]) | skip)
       have H' := bu H
       clear H
       go_wp2
       go_meet
       case rel => exact ⟨_, (decide ((bt a0 bz) ≤ 57)), (by first | rfl | (simp; done) | (simp [*]; done)), H', ⟨by have := HK1.out; first | omega | exact Nat.le_refl _⟩, by repeat (first | exact Drawn0.refl _ | apply Drawn0.step)⟩
      ·
       rw [if_neg c7] at H
       have c7b0 : decide (48 ≤ (bt a0 bz)) = false := decide_eq_false c7
       clear c7
       (first | rw [c7b0] | (simp only [i64_w, i32_w]; rw [c7b0]) | skip)
       have H' := bu H
       clear H
       go_wp2
       go_meet
       case rel => exact ⟨_, (false), (by first | rfl | (simp; done) | (simp [*]; done)), H', ⟨by have := HK1.out; first | omega | exact Nat.le_refl _⟩, by repeat (first | exact Drawn0.refl _ | apply Drawn0.step)⟩
     case rest =>
      clear HC6
      try clear p2
      try clear c3
      try clear c3b0
      try clear c4
      try clear c4b0
      try clear p5
      try clear q5
      try clear hx5
      try clear c7
      try clear c7b0
      try clear p2
      try clear p5
      try clear q5
      obtain ⟨kq, x19_5, rfl, HA, HJ5, ⟨mc5, rfl⟩⟩ := hcut
      cases kq with
      | zero => exact absurd HA.out (by simp [cowrieref04_digits.j1])
      | succ kj5 =>
       have H := HA.out
       clear HA
       simp only [cowrieref04_digits.j1] at H
       by_cases c8 : x19_5 = true
       ·
        subst c8
        have H1 : (if (((bt a0 bz) - 48) % 256) ≥ a1 then (some (0, false)) else (cowrieref04_digits.l0 kj5 a0 a1 (IntKind.u64.wrap ((IntKind.u64.wrap (bA * a1)) + (((bt a0 bz) - 48) % 256))) (wrap64 (bz + 1)))) = some (r1, r2) := by rw [if_pos rfl] at H; exact H
        clear H
        have H := H1
        clear H1
        by_cases c9 : (((bt a0 bz) - 48) % 256) ≥ a1
        ·
         rw [if_pos c9] at H
         have c9b0 : decide (a1 ≤ (((bt a0 bz) - 48) % 256)) = true := decide_eq_true c9
         clear c9
         simp only [Option.some.injEq, Prod.mk.injEq] at H
         obtain ⟨rfl, rfl⟩ := H
         go_wp2
         go_ret2
         exact ⟨by first | rfl | (simp; done) | (simp [*]; done), by repeat (first | exact Drawn0.refl _ | apply Drawn0.step)⟩
        ·
         rw [if_neg c9] at H
         have c9b0 : decide (a1 ≤ (((bt a0 bz) - 48) % 256)) = false := decide_eq_false c9
         clear c9
         have H' := bu H
         clear H
         go_wp2
         go_roundg kj5
         case measure => have := HK1.out; have := HJ5.out; omega
         case rel => exact ⟨(IntKind.u64.wrap ((IntKind.u64.wrap (bA * a1)) + (((bt a0 bz) - 48) % 256))), (wrap64 (bz + 1)), (by first | rfl | (simp; done) | (simp [*]; done)), (by first | rfl | (simp; done) | (simp [*]; done)), H', ⟨by have := HK1.out; have := HJ5.out; omega⟩, by repeat (first | exact Drawn0.refl _ | apply Drawn0.step)⟩
       ·
        replace c8 := Bool.eq_false_iff.mpr c8
        subst c8
        have H1 : (if (bt a0 bz) ≥ 97 then (cowrieref04_digits.j2 kj5 a0 a1 bA bz (bt a0 bz) 99 (decide ((bt a0 bz) ≤ 102))) else (cowrieref04_digits.j2 kj5 a0 a1 bA bz (bt a0 bz) 99 false)) = some (r1, r2) := by rw [if_neg (show ¬ (false = true) by decide)] at H; exact H
        clear H
        have H := H1
        clear H1
        have HC10 := bu H
        clear H
        go_upto_region 9 with (fail)
        go_cut [29] (fun v29 wc => ∃ (kq : Nat) (x29_9 : Bool), v29 = .bool x29_9 ∧ Aside0 (cowrieref04_digits.j2 kq a0 a1 bA bz (bt a0 bz) 99 x29_9 = some (r1, r2)) ∧ Aside0 (kq ≤ kj5) ∧ Drawn0 w wc)
        case first =>
         have H := HC10.out
         clear HC10
         by_cases c11 : (bt a0 bz) ≥ 97
         ·
          rw [if_pos c11] at H
          have c11b0 : decide (97 ≤ (bt a0 bz)) = true := decide_eq_true c11
          clear c11
          (first | rw [c11b0] | (simp only [i64_w, i32_w]; rw [c11b0]) | skip)
          have H' := bu H
          clear H
          go_wp2
          go_meet
          case rel => exact ⟨_, (decide ((bt a0 bz) ≤ 102)), (by first | rfl | (simp; done) | (simp [*]; done)), H', ⟨by have := HK1.out; have := HJ5.out; first | omega | exact Nat.le_refl _⟩, by repeat (first | exact Drawn0.refl _ | apply Drawn0.step)⟩
         ·
          rw [if_neg c11] at H
          have c11b0 : decide (97 ≤ (bt a0 bz)) = false := decide_eq_false c11
          clear c11
          (first | rw [c11b0] | (simp only [i64_w, i32_w]; rw [c11b0]) | skip)
          have H' := bu H
          clear H
          go_wp2
          go_meet
          case rel => exact ⟨_, (false), (by first | rfl | (simp; done) | (simp [*]; done)), H', ⟨by have := HK1.out; have := HJ5.out; first | omega | exact Nat.le_refl _⟩, by repeat (first | exact Drawn0.refl _ | apply Drawn0.step)⟩
        case rest =>
         clear HC10
         try clear c1
         try clear p2
         try clear c3
         try clear c3b0
         try clear c4
         try clear c4b0
         try clear c5
         try clear p5
         try clear q5
         try clear hx5
         try clear p6
         try clear c7
         try clear c7b0
         try clear c8
         try clear c9
         try clear c9b0
         try clear c11
         try clear c11b0
         try clear p2
         try clear p5
         try clear q5
         obtain ⟨kq, x29_9, rfl, HA, HJ9, ⟨mc9, rfl⟩⟩ := hcut
         cases kq with
         | zero => exact absurd HA.out (by simp [cowrieref04_digits.j2])
         | succ kj9 =>
          have H := HA.out
          clear HA
          simp only [cowrieref04_digits.j2] at H
          by_cases c12 : x29_9 = true
          ·
           subst c12
           have H1 : (if ((((bt a0 bz) - 97) % 256) + 10) ≥ a1 then (some (0, false)) else (cowrieref04_digits.l0 kj9 a0 a1 (IntKind.u64.wrap ((IntKind.u64.wrap (bA * a1)) + ((((bt a0 bz) - 97) % 256) + 10))) (wrap64 (bz + 1)))) = some (r1, r2) := by rw [if_pos rfl] at H; exact H
           clear H
           have H := H1
           clear H1
           by_cases c13 : ((((bt a0 bz) - 97) % 256) + 10) ≥ a1
           ·
            rw [if_pos c13] at H
            have c13b0 : decide (a1 ≤ ((((bt a0 bz) - 97) % 256) + 10)) = true := decide_eq_true c13
            clear c13
            simp only [Option.some.injEq, Prod.mk.injEq] at H
            obtain ⟨rfl, rfl⟩ := H
            go_wp2
            go_ret2
            exact ⟨by first | rfl | (simp; done) | (simp [*]; done), by repeat (first | exact Drawn0.refl _ | apply Drawn0.step)⟩
           ·
            rw [if_neg c13] at H
            have c13b0 : decide (a1 ≤ ((((bt a0 bz) - 97) % 256) + 10)) = false := decide_eq_false c13
            clear c13
            have H' := bu H
            clear H
            go_wp2
            go_roundg kj9
            case measure => have := HK1.out; have := HJ5.out; have := HJ9.out; omega
            case rel => exact ⟨(IntKind.u64.wrap ((IntKind.u64.wrap (bA * a1)) + ((((bt a0 bz) - 97) % 256) + 10))), (wrap64 (bz + 1)), (by first | rfl | (simp; done) | (simp [*]; done)), (by first | rfl | (simp; done) | (simp [*]; done)), H', ⟨by have := HK1.out; have := HJ5.out; have := HJ9.out; omega⟩, by repeat (first | exact Drawn0.refl _ | apply Drawn0.step)⟩
          ·
           replace c12 := Bool.eq_false_iff.mpr c12
           subst c12
           have H1 : (if (bt a0 bz) ≥ 65 then (cowrieref04_digits.j3 kj9 a0 a1 bA bz (bt a0 bz) 99 (decide ((bt a0 bz) ≤ 70))) else (cowrieref04_digits.j3 kj9 a0 a1 bA bz (bt a0 bz) 99 false)) = some (r1, r2) := by rw [if_neg (show ¬ (false = true) by decide)] at H; exact H
           clear H
           have H := H1
           clear H1
           have HC14 := bu H
           clear H
           go_upto_region 11 with (fail)
           go_cut [40] (fun v40 wc => ∃ (kq : Nat) (x40_13 : Bool), v40 = .bool x40_13 ∧ Aside0 (cowrieref04_digits.j3 kq a0 a1 bA bz (bt a0 bz) 99 x40_13 = some (r1, r2)) ∧ Aside0 (kq ≤ kj9) ∧ Drawn0 w wc)
           case first =>
            have H := HC14.out
            clear HC14
            by_cases c15 : (bt a0 bz) ≥ 65
            ·
             rw [if_pos c15] at H
             have c15b0 : decide (65 ≤ (bt a0 bz)) = true := decide_eq_true c15
             clear c15
             (first | rw [c15b0] | (simp only [i64_w, i32_w]; rw [c15b0]) | skip)
             have H' := bu H
             clear H
             go_wp2
             go_meet
             case rel => exact ⟨_, (decide ((bt a0 bz) ≤ 70)), (by first | rfl | (simp; done) | (simp [*]; done)), H', ⟨by have := HK1.out; have := HJ5.out; have := HJ9.out; first | omega | exact Nat.le_refl _⟩, by repeat (first | exact Drawn0.refl _ | apply Drawn0.step)⟩
            ·
             rw [if_neg c15] at H
             have c15b0 : decide (65 ≤ (bt a0 bz)) = false := decide_eq_false c15
             clear c15
             (first | rw [c15b0] | (simp only [i64_w, i32_w]; rw [c15b0]) | skip)
             have H' := bu H
             clear H
             go_wp2
             go_meet
             case rel => exact ⟨_, (false), (by first | rfl | (simp; done) | (simp [*]; done)), H', ⟨by have := HK1.out; have := HJ5.out; have := HJ9.out; first | omega | exact Nat.le_refl _⟩, by repeat (first | exact Drawn0.refl _ | apply Drawn0.step)⟩
           case rest =>
            clear HC14
            try clear c1
            try clear p2
            try clear c3
            try clear c3b0
            try clear c4
            try clear c4b0
            try clear c5
            try clear p5
            try clear q5
            try clear hx5
            try clear p6
            try clear c7
            try clear c7b0
            try clear c8
            try clear c9
            try clear c9b0
            try clear c11
            try clear c11b0
            try clear c12
            try clear c13
            try clear c13b0
            try clear c15
            try clear c15b0
            try clear p2
            try clear p5
            try clear p6
            try clear q5
            obtain ⟨kq, x40_13, rfl, HA, HJ13, ⟨mc13, rfl⟩⟩ := hcut
            cases kq with
            | zero => exact absurd HA.out (by simp [cowrieref04_digits.j3])
            | succ kj13 =>
             have H := HA.out
             clear HA
             simp only [cowrieref04_digits.j3] at H
             by_cases c16 : x40_13 = true
             ·
              subst c16
              have H1 : (if ((((bt a0 bz) - 65) % 256) + 10) ≥ a1 then (some (0, false)) else (cowrieref04_digits.l0 kj13 a0 a1 (IntKind.u64.wrap ((IntKind.u64.wrap (bA * a1)) + ((((bt a0 bz) - 65) % 256) + 10))) (wrap64 (bz + 1)))) = some (r1, r2) := by rw [if_pos rfl] at H; exact H
              clear H
              have H := H1
              clear H1
              by_cases c17 : ((((bt a0 bz) - 65) % 256) + 10) ≥ a1
              ·
               rw [if_pos c17] at H
               have c17b0 : decide (a1 ≤ ((((bt a0 bz) - 65) % 256) + 10)) = true := decide_eq_true c17
               clear c17
               simp only [Option.some.injEq, Prod.mk.injEq] at H
               obtain ⟨rfl, rfl⟩ := H
               go_wp2
               go_ret2
               exact ⟨by first | rfl | (simp; done) | (simp [*]; done), by repeat (first | exact Drawn0.refl _ | apply Drawn0.step)⟩
              ·
               rw [if_neg c17] at H
               have c17b0 : decide (a1 ≤ ((((bt a0 bz) - 65) % 256) + 10)) = false := decide_eq_false c17
               clear c17
               have H' := bu H
               clear H
               go_wp2
               go_roundg kj13
               case measure => have := HK1.out; have := HJ5.out; have := HJ9.out; have := HJ13.out; omega
               case rel => exact ⟨(IntKind.u64.wrap ((IntKind.u64.wrap (bA * a1)) + ((((bt a0 bz) - 65) % 256) + 10))), (wrap64 (bz + 1)), (by first | rfl | (simp; done) | (simp [*]; done)), (by first | rfl | (simp; done) | (simp [*]; done)), H', ⟨by have := HK1.out; have := HJ5.out; have := HJ9.out; have := HJ13.out; omega⟩, by repeat (first | exact Drawn0.refl _ | apply Drawn0.step)⟩
             ·
              replace c16 := Bool.eq_false_iff.mpr c16
              subst c16
              have H1 : (if 99 ≥ a1 then (some (0, false)) else (cowrieref04_digits.l0 kj13 a0 a1 (IntKind.u64.wrap ((IntKind.u64.wrap (bA * a1)) + 99)) (wrap64 (bz + 1)))) = some (r1, r2) := by rw [if_neg (show ¬ (false = true) by decide)] at H; exact H
              clear H
              have H := H1
              clear H1
              by_cases c18 : 99 ≥ a1
              ·
               rw [if_pos c18] at H
               have c18b0 : decide (a1 ≤ 99) = true := decide_eq_true c18
               clear c18
               simp only [Option.some.injEq, Prod.mk.injEq] at H
               obtain ⟨rfl, rfl⟩ := H
               go_wp2
               go_ret2
               exact ⟨by first | rfl | (simp; done) | (simp [*]; done), by repeat (first | exact Drawn0.refl _ | apply Drawn0.step)⟩
              ·
               rw [if_neg c18] at H
               have c18b0 : decide (a1 ≤ 99) = false := decide_eq_false c18
               clear c18
               have H' := bu H
               clear H
               go_wp2
               go_roundg kj13
               case measure => have := HK1.out; have := HJ5.out; have := HJ9.out; have := HJ13.out; omega
               case rel => exact ⟨(IntKind.u64.wrap ((IntKind.u64.wrap (bA * a1)) + 99)), (wrap64 (bz + 1)), (by first | rfl | (simp; done) | (simp [*]; done)), (by first | rfl | (simp; done) | (simp [*]; done)), H', ⟨by have := HK1.out; have := HJ5.out; have := HJ9.out; have := HJ13.out; omega⟩, by repeat (first | exact Drawn0.refl _ | apply Drawn0.step)⟩
    ·
     rw [if_neg c4] at H
     exact absurd H (by simp)
   ·
    rw [if_neg c3] at H
    have c3b0 : decide (bz < (a0.size : Int)) = false := decide_eq_false c3
    clear c3
    simp only [Option.some.injEq, Prod.mk.injEq] at H
    obtain ⟨rfl, rfl⟩ := H
    go_wp2
    go_ret2
    exact ⟨by first | rfl | (simp; done) | (simp [*]; done), by repeat (first | exact Drawn0.refl _ | apply Drawn0.step)⟩

end Go.Proofs.YtpljochiegallaaDoor.XVB
