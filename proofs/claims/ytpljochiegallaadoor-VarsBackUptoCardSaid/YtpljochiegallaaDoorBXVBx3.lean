-- WRITTEN BY xprint.py, a program of this session (over the kit's print)
import Derived.Test.YtpljochiegallaaDoorBXVBx0
import Derived.Test.YtpljochiegallaaDoorBXVBx1
namespace Go.Proofs.YtpljochiegallaaDoor.XVB
open Go.RowKit Go.Proofs.YtpljochiegallaaDoorW.PrintWords Go.Proofs.YtpljochiegallaaDoorW.PrintLast Go.Proofs.YtpljochiegallaaDoorW.PrintMore
attribute [local go_sem] max2_int min2_int max_two min_two max_three min_three max_four min_four   -- for this text's walks alone
set_option linter.unusedVariables false
set_option linter.unusedSimpArgs false

/-! ### number_Print: function 29 -/
def DecInv (w : World) (m sz : Nat) (l : List Int) (wr : World) : Prop :=
  Below w.heap.size w wr ∧ (∃ cur : Array Value, wr.heap[w.heap.size]? = some (.cells cur 73 (0, 0)) ∧ cur.size = 20 ∧ ∀ i, i < l.length → cur[20 - l.length + i]? = some (.int .u8 (l.getD i 0)))
theorem dec_step {w wr : World} {m sz : Nat} {l : List Int} (h : DecInv w m sz l wr) {at1 : Nat} (ha : at1 + 1 + l.length = 20) (d : Int) : DecInv w m (sz / 10) (d :: l) (wr.setCell ⟨w.heap.size, at1, none⟩ (.int .u8 d)) := by
 obtain ⟨hb, cur, hh, hs, hc⟩ := h
 refine ⟨hb.setCell (Nat.le_refl _) _, _, XC.setCell_heap hh at1 _, by simpa using hs, fun i hi => ?_⟩
 simp only [List.length_cons] at hi ⊢
 by_cases h0 : i = 0
 ·
  subst h0
  rw [show 20 - (l.length + 1) + 0 = at1 by omega]
  simp [Array.getElem?_setIfInBounds, show at1 < cur.size by omega]
 ·
  rw [Array.getElem?_setIfInBounds_ne (by omega)]
  obtain ⟨i, rfl⟩ : ∃ j, i = j + 1 := ⟨i - 1, by omega⟩
  have := hc i (by omega)
  rw [show 20 - (l.length + 1) + (i + 1) = 20 - l.length + i by omega]
  simpa using this
theorem dec_reads {w wr : World} {m sz : Nat} {l : List Int} (h : DecInv w m sz l wr) {at1 : Nat} (ha : at1 + l.length = 20) : Kd.C (Kd.int .u8) wr (some ⟨w.heap.size, at1, none⟩) l.length l := by
 obtain ⟨hb, cur, hh, hs, hc⟩ := h
 refine Kd.C_of_reads (d := (0 : Int)) (h1 := fun _ => rfl) ⟨rfl, by omega, fun _ => ⟨_, rfl, fun j hj => ?_⟩⟩
 rw [XC.add_at]
 exact XC.cell_of hh (by have := hc j hj; rwa [show 20 - l.length + j = at1 + j by omega] at this)
theorem dec_start (w : World) (m : Nat) (n : Int) : DecInv w m m [] (w.alloc (.cells #[.int .u8 0, .int .u8 0, .int .u8 0, .int .u8 0, .int .u8 0, .int .u8 0, .int .u8 0, .int .u8 0, .int .u8 0, .int .u8 0, .int .u8 0, .int .u8 0, .int .u8 0, .int .u8 0, .int .u8 0, .int .u8 0, .int .u8 0, .int .u8 0, .int .u8 0, .int .u8 0] 73)) :=
 ⟨bm (bw _ _) _, _, XC.heap_self _ _, rfl, fun i hi => absurd hi (Nat.not_lt_zero _)⟩
theorem dec_cell {w wr : World} {m sz : Nat} {l : List Int} (h : DecInv w m sz l wr) (j : Nat) (hj : j < 20) : (∃ v, wr.cell? ⟨w.heap.size, j, none⟩ = some v) ∧ wr.frozen? ⟨w.heap.size, j, none⟩ = false := by
 obtain ⟨hb, cur, hh, hs, hc⟩ := h
 exact ⟨⟨cur[j]'(by omega), XC.cell_of hh (by simp [show j < cur.size by omega])⟩, XC.unfrozen_of hh j⟩
theorem dec_slice (g at1 : Nat) (h : at1 < 20) (W : World) : (Instr.sliceAt 73 (.pointer (some ⟨g, 0, none⟩)) (some (.int .i64 (at1 : Int))) none none).run Tryd.prog W = .ok (.slice (some ⟨g, at1, none⟩) (20 - at1) (20 - at1)) W := by
 have e1 : Tryd.prog.arrayLen 73 = 20 := by kernel_rfl
 have e2 : Tryd.prog.elem 73 = 5 := by kernel_rfl
 have e3 : ∀ W, (sizeOf 5).run Tryd.prog W = .ok 1 W := fun W => by kernel_rfl
 rw [run_sliceAt_array_l (P := Tryd.prog) W 73 ⟨g, 0, none⟩ (by rw [e1, e2]; kernel_rfl) .i64 (at1 : Int) (by omega) (by rw [e1]; omega), e1, e2, e3]
 simp only [Result.andThen, slicedAt, Int.toNat_natCast]
 rw [if_neg (by omega), Nat.mul_one, add_plain]
theorem dec_copy (W : World) (g at0 : Nat) (h : at0 < 20) (hc : ∃ v, W.cell? ⟨g, at0, none⟩ = some v) (hf : W.frozen? ⟨g, at0, none⟩ = false) : (Builtin.copy_ #[74, 9] 3 #[.slice (some ⟨g, at0, none⟩) (20 - at0) (20 - at0), .string ⟨#[45]⟩]).run Tryd.prog W = .ok (goInt 1) (W.setCell ⟨g, at0, none⟩ (.int .u8 45)) := by
 obtain ⟨v, hv⟩ := hc
 exact run_copy_string W 74 9 3 5 g at0 (20 - at0) (20 - at0) ⟨#[45]⟩ Tryd.underlying74 (fun W => by kernel_rfl) (by show 1 ≤ 20 - at0; omega) (fun j hj => by
  obtain rfl : j = 0 := by have : j < 1 := hj; omega
  rw [Nat.add_zero, hv]; rfl) (fun j hj => by
  obtain rfl : j = 0 := by have : j < 1 := hj; omega
  rw [Nat.add_zero, hf])
set_option maxHeartbeats 4000000 in
set_option maxRecDepth 100000 in
theorem number_Print_pos (a0 : Int) (w : World) (hlo : 0 ≤ a0) (hhi : a0 ≤ 9223372036854775807) :
  Calls Tryd.prog 29 #[.int .i64 a0] w fun e w' => e = .returned (.string (strOfNums (XC.decI a0.toNat))) ∧ Below w.heap.size w w' := by
 have hneg : ¬ a0 < 0 := by omega
 have hm := Int.toNat_of_nonneg hlo
 have hml : a0.toNat < 10 ^ 20 := by omega
 generalize a0.toNat = m at hm hml
 subst hm
 have HL := bu (XC.decI_len 19 m hml).2
 have HM := bu hml
 clear hml
 go_enter Tryd.func29, Tryd.ntmps29
 go_wp2
 go_loopg [3, 5] m (fun gg s3 s5 wr => ∃ (sz at1 : Nat) (l : List Int), sz ≤ gg ∧ sz ≤ m ∧ at1 + 1 + l.length = 20 ∧ s3 = .int .u64 sz ∧ s5 = .int .i64 ((at1 : Int) + 1) ∧ Aside0 (DecInv w m sz l wr) ∧ Aside0 ((0 < sz ∨ l = []) ∧ XC.decI m = XC.decI sz ++ l))
 case atStart => exact ⟨m, 19, [], by omega, by omega, rfl, rfl, rfl, ⟨dec_start w m 0⟩, ⟨.inr rfl, by simp⟩⟩
 case round =>
  obtain ⟨sz, at1, l, hsz, hszm, hat, rfl, rfl, HI, HD⟩ := hrel
  obtain ⟨⟨v, hcell⟩, hfree⟩ := dec_cell HI.out at1 (by omega)
  have ht : (at1 : Int) < 20 := by omega
  have HS := bu (dec_step HI.out hat (48 + (sz : Int) % 10))
  by_cases hz : sz < 10
  ·
   have hz' : sz / 10 = 0 := by omega
   have hsl := dec_slice w.heap.size at1 (by omega)
   have hd := dec_reads HS.out (at1 := at1) (by simp; omega)
   have hconv := Kd.C_string (P := Tryd.prog) (src := 74) (dst := 9) (e := 5) (c := 20 - at1) Tryd.underlying74 Tryd.underlying5 Tryd.underlying9 hd
   rw [show ((48 + (sz : Int) % 10) :: l).length = 20 - at1 by simp; omega] at hconv
   have HX : Aside0 (XC.decI m = (48 + (sz : Int) % 10) :: l) := ⟨by rw [HD.out.2, XC.decI_small hz]; simp; omega⟩
   clear hd
   go_wp2
   go_ret
   exact ⟨by rw [HX.out]; rfl, HS.out.1⟩
  ·
   have hz' : ¬ sz / 10 = 0 := by omega
   have hz2 : ((sz : Int) / 10 == 0) = false := by simp; omega
   have HX : Aside0 (XC.decI m = XC.decI (sz / 10) ++ ((48 + (sz : Int) % 10) :: l)) := ⟨by rw [HD.out.2, XC.decI_big hz]; simp⟩
   have hl2 : l.length + 2 ≤ 20 := by
    have h1 := HL.out
    have h2 := (XC.decI_len 19 (sz / 10) (by have := HM.out; omega)).1
    rw [HX.out] at h1
    simp at h1; omega
   go_wp2
   go_roundg (sz / 10)
   case measure => omega
   case rel =>
    refine ⟨sz / 10, at1 - 1, _, Nat.le_refl _, by omega, by simp; omega, rfl, ?_, HS, ⟨.inl (by omega), HX.out⟩⟩
    go_num
set_option maxHeartbeats 4000000 in
set_option maxRecDepth 100000 in
theorem number_Print_neg (a0 : Int) (w : World) (hlo : -9223372036854775808 ≤ a0) (hhi : a0 < 0) :
  Calls Tryd.prog 29 #[.int .i64 a0] w fun e w' => e = .returned (.string (strOfNums (45 :: XC.decI (-a0).toNat))) ∧ Below w.heap.size w w' := by
 have h1 : IntKind.u64.wrap (-IntKind.u64.wrap a0) = -a0 := by simp [IntKind.wrap, IntKind.signed, IntKind.bits]; omega
 have hm : ((-a0).toNat : Int) = -a0 := Int.toNat_of_nonneg (by omega)
 have hml : (-a0).toNat < 10 ^ 19 := by omega
 generalize (-a0).toNat = m at hm hml
 rw [← hm] at h1
 have hmb : (m : Int) ≤ 9223372036854775808 := by omega
 have HL := bu (XC.decI_len 18 m hml).2
 clear hm
 have HM := bu hml
 clear hml
 go_enter Tryd.func29, Tryd.ntmps29
 go_wp2
 go_loopg [3, 5] m (fun gg s3 s5 wr => ∃ (sz at1 : Nat) (l : List Int), sz ≤ gg ∧ sz ≤ m ∧ at1 + 1 + l.length = 20 ∧ s3 = .int .u64 sz ∧ s5 = .int .i64 ((at1 : Int) + 1) ∧ Aside0 (DecInv w m sz l wr) ∧ Aside0 ((0 < sz ∨ l = []) ∧ XC.decI m = XC.decI sz ++ l))
 case atStart => exact ⟨m, 19, [], by omega, by omega, rfl, rfl, rfl, ⟨dec_start w m 0⟩, ⟨.inr rfl, by simp⟩⟩
 case round =>
  obtain ⟨sz, at1, l, hsz, hszm, hat, rfl, rfl, HI, HD⟩ := hrel
  obtain ⟨⟨v, hcell⟩, hfree⟩ := dec_cell HI.out at1 (by omega)
  have ht : (at1 : Int) < 20 := by omega
  have HS := bu (dec_step HI.out hat (48 + (sz : Int) % 10))
  by_cases hz : sz < 10
  ·
   have hz' : sz / 10 = 0 := by omega
   have HX : Aside0 (XC.decI m = (48 + (sz : Int) % 10) :: l) := ⟨by rw [HD.out.2, XC.decI_small hz]; simp; omega⟩
   have hl1 : l.length + 1 ≤ 19 := by
    have h1 := HL.out
    rw [HX.out] at h1
    simpa using h1
   obtain ⟨at0, rfl⟩ : ∃ j, at1 = j + 1 := ⟨at1 - 1, by omega⟩
   have HS2 := bu (dec_step HS.out (at1 := at0) (by simp; omega) 45)
   have hsl := dec_slice w.heap.size at0 (by omega)
   have hd := dec_reads HS2.out (at1 := at0) (by simp; omega)
   have hconv := Kd.C_string (P := Tryd.prog) (src := 74) (dst := 9) (e := 5) (c := 20 - at0) Tryd.underlying74 Tryd.underlying5 Tryd.underlying9 hd
   rw [show (45 :: (48 + (sz : Int) % 10) :: l).length = 20 - at0 by simp; omega] at hconv
   have hcp := dec_copy _ w.heap.size at0 (by omega) (dec_cell HS.out at0 (by omega)).1 (dec_cell HS.out at0 (by omega)).2
   clear hd
   go_wp2
   go_ret
   exact ⟨by rw [HX.out]; rfl, HS2.out.1⟩
  ·
   have hz' : ¬ sz / 10 = 0 := by omega
   have hz2 : ((sz : Int) / 10 == 0) = false := by simp; omega
   have HX : Aside0 (XC.decI m = XC.decI (sz / 10) ++ ((48 + (sz : Int) % 10) :: l)) := ⟨by rw [HD.out.2, XC.decI_big hz]; simp⟩
   have hl2 : l.length + 2 ≤ 20 := by
    have h1 := HL.out
    have h2 := (XC.decI_len 18 (sz / 10) (by have := HM.out; omega)).1
    rw [HX.out] at h1
    simp at h1; omega
   go_wp2
   go_roundg (sz / 10)
   case measure => omega
   case rel =>
    refine ⟨sz / 10, at1 - 1, _, Nat.le_refl _, by omega, by simp; omega, rfl, ?_, HS, ⟨.inl (by omega), HX.out⟩⟩
    go_num

def number_Print.f (a0 : Int) : Option ByteArray := if -9223372036854775808 ≤ a0 ∧ a0 ≤ 9223372036854775807 then some (strOfNums (XC.decimal a0)) else none
theorem number_Print.calls (a0 : Int) (r : ByteArray) (w : World) (h : number_Print.f a0 = some r) :
  Calls Tryd.prog 29 #[.int .i64 a0] w fun e w' => e = .returned (.string r) ∧ Below w.heap.size w w' := by
 unfold number_Print.f at h
 split at h
 ·
  rename_i hh
  obtain rfl := Option.some.inj h
  unfold XC.decimal
  by_cases h0 : a0 < 0
  ·
   rw [if_pos h0]; exact number_Print_neg a0 w hh.1 h0
  ·
   rw [if_neg h0]; exact number_Print_pos a0 w (by omega) hh.2
 ·
  exact absurd h (by simp)

/-! ### strings_Join: function 30 -/
def strings_Join.f (l0 : List ByteArray) (a1 : ByteArray) : Option ByteArray :=
  if (Lib.join (l0.map (·.data.toList)) a1.data.toList).length ≤ 140737488355328 then (if l0.length ≤ 140737488355328 then some ⟨(Lib.join (l0.map (·.data.toList)) a1.data.toList).toArray⟩ else none) else none
theorem strings_Join.calls (A0 : Option Addr) (c0 : Nat) (l0 : List ByteArray) (a1 : ByteArray) (r : ByteArray) (w : World) (hr0 : Kd.C Kd.string w A0 l0.length l0) (hc0 : l0.length ≤ c0) (h : strings_Join.f l0 a1 = some r) :
  Calls Tryd.prog 30 #[.slice A0 l0.length c0, .string a1] w fun e w' => e = .returned (.string r) ∧ Below w.heap.size w w' := by
 unfold strings_Join.f at h
 split at h
 ·
  rename_i hlen
  split at h
  ·
   rename_i hN
   obtain rfl := Option.some.inj h
   rcases Nat.eq_zero_or_pos l0.length with h0 | h0
   ·
    obtain rfl := List.length_eq_zero_iff.1 h0
    refine (Tryd.strings_Join_none A0 c0 a1 w).mono ?_
    rintro e w' ⟨rfl, rfl⟩
    exact ⟨rfl, bw _ _⟩
   ·
    obtain ⟨b, o, rfl, hb, hcell⟩ := XC.strings_at hr0 h0
    exact Tryd.strings_Join b o c0 l0 a1 w hcell hb hN hc0 hlen
  ·
   exact absurd h (by simp)
 ·
  exact absurd h (by simp)

/-! ### octets_Digits: function 31 -/
def octets_Digits.f (a0 : ByteArray) : Option Bool := if a0.size ≤ 9223372036854775807 then some (XC.digitsB (bytesOf a0)) else none
set_option maxHeartbeats 2000000 in
theorem octets_Digits.calls (a0 : ByteArray) (r : Bool) (w : World) (h : octets_Digits.f a0 = some r) :
  Calls Tryd.prog 31 #[.string a0] w fun e w' => e = .returned (.bool r) ∧ Below w.heap.size w w' := by
 unfold octets_Digits.f at h
 by_cases hs : a0.size ≤ 9223372036854775807
 ·
  rw [if_pos hs] at h
  obtain rfl := Option.some.inj h
  clear h
  have e1 : ∀ args w, (callFunc 54 args).run Tryd.prog w = .ok (.enter 54 args) w := XC.enters Tryd.func54 (by kernel_rfl) rfl
  have hv := octets_every.calls 54 e1 XC.digC a0 hs
  have HV := bu (fun w => hv w (fun W x hx => (octets_digit.calls x _ W (octets_digit_some x)).mono fun e W' h' => ⟨h'.1, h'.2.below⟩))
  clear hv
  have HD := bu (XC.digitsB_eq a0)
  generalize (decide (0 < a0.size) && (bytesOf a0).all XC.digC) = q at HV HD
  go_enter Tryd.func31, Tryd.ntmps31
  go_wp2_with (go_at_call 53; refine (HV.out _).mono ?_; rintro e w' ⟨rfl, hb⟩)
  go_ret
  exact ⟨by rw [HD.out]; rfl, hb⟩
 ·
  rw [if_neg hs] at h
  exact absurd h (by simp)

/-! ### strings_Trim: function 56 -/
def strings_Trim.f (a0 : ByteArray) (a1 : ByteArray) : Option ByteArray :=
  if a0.size ≤ 9223372036854775807 ∧ a1.size < 4294967281 ∧ a1.data.toList.all (fun b => decide (b.toNat < 128)) = true then some ⟨(Lib.trimS a0.data.toList a1.data.toList).toArray⟩ else none
theorem strings_Trim.calls (a0 : ByteArray) (a1 : ByteArray) (r : ByteArray) (w : World) (h : strings_Trim.f a0 a1 = some r) :
  Calls Tryd.prog 56 #[.string a0, .string a1] w fun e w' => e = .returned (.string r) ∧ Below w.heap.size w w' := by
 unfold strings_Trim.f at h
 split at h
 ·
  rename_i hh
  obtain rfl := Option.some.inj h
  exact Any.strings_Trim_laid Tryd.lays160 (by kernel_rfl) a0 a1 w hh.1 hh.2.1 (XC.ascii_at hh.2.2)
 ·
  exact absurd h (by simp)

/-! ### stringslite_HasPrefix: function 99 -/
def stringslite_HasPrefix.f (a0 : ByteArray) (a1 : ByteArray) : Option (Bool) := if (a0.size : Int) ≥ (a1.size : Int) then (if 0 ≤ (a1.size : Int) then (if (a1.size : Int) ≤ (a0.size : Int) then (some ((a0.extract 0 ((a1.size : Int) : Int).toNat).toList == a1.toList)) else (none)) else (none)) else (some false)
set_option maxHeartbeats 8000000 in
set_option maxRecDepth 100000 in
theorem stringslite_HasPrefix.calls (a0 : ByteArray) (a1 : ByteArray) (r : Bool) (w : World) (h : stringslite_HasPrefix.f a0 a1 = some r) :
  Calls Tryd.prog 99 #[.string a0, .string a1] w fun e w' => e = .returned (.bool r) ∧ Drawn0 w w' := by
 have H : (if (a0.size : Int) ≥ (a1.size : Int) then (if 0 ≤ (a1.size : Int) then (if (a1.size : Int) ≤ (a0.size : Int) then (some ((a0.extract 0 ((a1.size : Int) : Int).toNat).toList == a1.toList)) else (none)) else (none)) else (some false)) = some r := h
 clear h
 by_cases c3 : (a0.size : Int) ≥ (a1.size : Int)
 ·
  rw [if_pos c3] at H
  have c3b0 : decide ((a1.size : Int) ≤ (a0.size : Int)) = true := decide_eq_true c3
  have c3b1 : decide (a1.size ≤ a0.size) = true := decide_eq_true (Int.ofNat_le.mp c3)
  clear c3
  by_cases c4 : 0 ≤ (a1.size : Int)
  ·
   rw [if_pos c4] at H
   have c4b0 := eq_true c4
   have c4b1 : decide (0 ≤ (a1.size : Int)) = true := decide_eq_true c4
   clear c4
   by_cases c5 : (a1.size : Int) ≤ (a0.size : Int)
   ·
    rw [if_pos c5] at H
    have c5b0 := eq_true c5
    have c5b1 : decide ((a1.size : Int) ≤ (a0.size : Int)) = true := decide_eq_true c5
    clear c5
    obtain rfl := Option.some.inj H
    go_enter Tryd.func99, Tryd.ntmps99
    go_wp2
    go_ret
    exact ⟨by first | rfl | (simp; done) | (simp [*]; done), by repeat (first | exact Drawn0.refl _ | apply Drawn0.step)⟩
   ·
    rw [if_neg c5] at H
    exact absurd H (by simp)
  ·
   rw [if_neg c4] at H
   exact absurd H (by simp)
 ·
  rw [if_neg c3] at H
  have c3b0 : decide ((a1.size : Int) ≤ (a0.size : Int)) = false := decide_eq_false c3
  have c3b1 : decide (a1.size ≤ a0.size) = false := decide_eq_false (fun h => c3 (Int.ofNat_le.mpr h))
  clear c3
  obtain rfl := Option.some.inj H
  go_enter Tryd.func99, Tryd.ntmps99
  go_wp2
  go_ret
  exact ⟨by first | rfl | (simp; done) | (simp [*]; done), by repeat (first | exact Drawn0.refl _ | apply Drawn0.step)⟩

/-! ### stringslite_CutPrefix: function 94 -/
def stringslite_CutPrefix.f (a0 : ByteArray) (a1 : ByteArray) : Option (ByteArray × Bool) := (stringslite_HasPrefix.f a0 a1).bind fun t148 => (if t148 = true then (if 0 ≤ (a1.size : Int) then (if (a1.size : Int) ≤ (a0.size : Int) then (some (a0.extract ((a1.size : Int) : Int).toNat a0.size, true)) else (none)) else (none)) else (some (a0, false)))
set_option maxHeartbeats 8000000 in
set_option maxRecDepth 100000 in
theorem stringslite_CutPrefix.calls (a0 : ByteArray) (a1 : ByteArray) (r1 : ByteArray) (r2 : Bool) (w : World) (h : stringslite_CutPrefix.f a0 a1 = some (r1, r2)) :
  Calls Tryd.prog 94 #[.string a0, .string a1] w fun e w' => e = .returned (.tuple #[.string r1, .bool r2]) ∧ Drawn0 w w' := by
 have H : ((stringslite_HasPrefix.f a0 a1).bind fun t148 => (if t148 = true then (if 0 ≤ (a1.size : Int) then (if (a1.size : Int) ≤ (a0.size : Int) then (some (a0.extract ((a1.size : Int) : Int).toNat a0.size, true)) else (none)) else (none)) else (some (a0, false)))) = some (r1, r2) := h
 clear h
 replace H := Option.bind_eq_some_iff.mp H
 obtain ⟨t148, A30, H⟩ := H
 replace H : (if t148 = true then (if 0 ≤ (a1.size : Int) then (if (a1.size : Int) ≤ (a0.size : Int) then (some (a0.extract ((a1.size : Int) : Int).toNat a0.size, true)) else (none)) else (none)) else (some (a0, false))) = some (r1, r2) := H
 have A3 := bu A30
 clear A30
 by_cases c4 : t148 = true
 ·
  subst c4
  have H1 : (if 0 ≤ (a1.size : Int) then (if (a1.size : Int) ≤ (a0.size : Int) then (some (a0.extract ((a1.size : Int) : Int).toNat a0.size, true)) else (none)) else (none)) = some (r1, r2) := by rw [if_pos rfl] at H; exact H
  clear H
  have H := H1
  clear H1
  by_cases c5 : 0 ≤ (a1.size : Int)
  ·
   rw [if_pos c5] at H
   have c5b0 := eq_true c5
   have c5b1 : decide (0 ≤ (a1.size : Int)) = true := decide_eq_true c5
   clear c5
   by_cases c6 : (a1.size : Int) ≤ (a0.size : Int)
   ·
    rw [if_pos c6] at H
    have c6b0 := eq_true c6
    have c6b1 : decide ((a1.size : Int) ≤ (a0.size : Int)) = true := decide_eq_true c6
    clear c6
    simp only [Option.some.injEq, Prod.mk.injEq] at H
    obtain ⟨rfl, rfl⟩ := H
    go_enter Tryd.func94, Tryd.ntmps94
    go_wp2_with (first | ((with_reducible refine bv (f := 99) rfl ?_); refine goesL_ (some 8) rfl rfl Tryd.func99 (by kernel_rfl) rfl #[.string a0, .string a1] rfl (by (try simp only [List.map_toArray, List.map_cons, List.map_nil]); first | done | rfl | (simp only [List.length_drop, List.length_take]; rfl)) ?_; (with_reducible refine (stringslite_HasPrefix.calls a0 a1 true _ A3.out).mono ?_); rintro e w' ⟨rfl, ⟨nd, rfl⟩⟩; refine ⟨_, rfl, ?_⟩))
    go_ret2
    exact ⟨by first | rfl | (simp; done) | (simp [*]; done), by repeat (first | exact Drawn0.refl _ | apply Drawn0.step)⟩
   ·
    rw [if_neg c6] at H
    exact absurd H (by simp)
  ·
   rw [if_neg c5] at H
   exact absurd H (by simp)
 ·
  replace c4 := Bool.eq_false_iff.mpr c4
  subst c4
  have H1 : (some (a0, false)) = some (r1, r2) := by rw [if_neg (show ¬ (false = true) by decide)] at H; exact H
  clear H
  have H := H1
  clear H1
  simp only [Option.some.injEq, Prod.mk.injEq] at H
  obtain ⟨rfl, rfl⟩ := H
  go_enter Tryd.func94, Tryd.ntmps94
  go_wp2_with (first | ((with_reducible refine bv (f := 99) rfl ?_); refine goesL_ (some 8) rfl rfl Tryd.func99 (by kernel_rfl) rfl #[.string a0, .string a1] rfl (by (try simp only [List.map_toArray, List.map_cons, List.map_nil]); first | done | rfl | (simp only [List.length_drop, List.length_take]; rfl)) ?_; (with_reducible refine (stringslite_HasPrefix.calls a0 a1 false _ A3.out).mono ?_); rintro e w' ⟨rfl, ⟨nd, rfl⟩⟩; refine ⟨_, rfl, ?_⟩))
  go_ret2
  exact ⟨by first | rfl | (simp; done) | (simp [*]; done), by repeat (first | exact Drawn0.refl _ | apply Drawn0.step)⟩

/-! ### strings_CutPrefix: function 87 -/
def strings_CutPrefix.f (a0 : ByteArray) (a1 : ByteArray) : Option (ByteArray × Bool) := (stringslite_CutPrefix.f a0 a1).bind fun bt149 => (some (bt149.1, bt149.2))
set_option maxHeartbeats 8000000 in
set_option maxRecDepth 100000 in
theorem strings_CutPrefix.calls (a0 : ByteArray) (a1 : ByteArray) (r1 : ByteArray) (r2 : Bool) (w : World) (h : strings_CutPrefix.f a0 a1 = some (r1, r2)) :
  Calls Tryd.prog 87 #[.string a0, .string a1] w fun e w' => e = .returned (.tuple #[.string r1, .bool r2]) ∧ Drawn0 w w' := by
 have H : ((stringslite_CutPrefix.f a0 a1).bind fun bt149 => (some (bt149.1, bt149.2))) = some (r1, r2) := h
 clear h
 replace H := Option.bind_eq_some_iff.mp H
 obtain ⟨⟨t149, t150⟩, A30, H⟩ := H
 replace H : (some (t149, t150)) = some (r1, r2) := H
 have A3 := bu A30
 clear A30
 simp only [Option.some.injEq, Prod.mk.injEq] at H
 obtain ⟨rfl, rfl⟩ := H
 go_enter Tryd.func87, Tryd.ntmps87
 go_wp2_with (first | ((with_reducible refine bv (f := 94) rfl ?_); refine goesL_ (some 8) rfl rfl Tryd.func94 (by kernel_rfl) rfl #[.string a0, .string a1] rfl (by (try simp only [List.map_toArray, List.map_cons, List.map_nil]); first | done | rfl | (simp only [List.length_drop, List.length_take]; rfl)) ?_; (with_reducible refine (stringslite_CutPrefix.calls a0 a1 t149 t150 _ A3.out).mono ?_); rintro e w' ⟨rfl, ⟨nd, rfl⟩⟩; refine ⟨_, rfl, ?_⟩))
 go_ret2
 exact ⟨by first | rfl | (simp; done) | (simp [*]; done), by repeat (first | exact Drawn0.refl _ | apply Drawn0.step)⟩

/-! ### stringslite_TrimPrefix: function 95 -/
def stringslite_TrimPrefix.f (a0 : ByteArray) (a1 : ByteArray) : Option (ByteArray) := (stringslite_HasPrefix.f a0 a1).bind fun t151 => (if t151 = true then (if 0 ≤ (a1.size : Int) then (if (a1.size : Int) ≤ (a0.size : Int) then (some (a0.extract ((a1.size : Int) : Int).toNat a0.size)) else (none)) else (none)) else (some a0))
set_option maxHeartbeats 8000000 in
set_option maxRecDepth 100000 in
theorem stringslite_TrimPrefix.calls (a0 : ByteArray) (a1 : ByteArray) (r : ByteArray) (w : World) (h : stringslite_TrimPrefix.f a0 a1 = some r) :
  Calls Tryd.prog 95 #[.string a0, .string a1] w fun e w' => e = .returned (.string r) ∧ Drawn0 w w' := by
 have H : ((stringslite_HasPrefix.f a0 a1).bind fun t151 => (if t151 = true then (if 0 ≤ (a1.size : Int) then (if (a1.size : Int) ≤ (a0.size : Int) then (some (a0.extract ((a1.size : Int) : Int).toNat a0.size)) else (none)) else (none)) else (some a0))) = some r := h
 clear h
 replace H := Option.bind_eq_some_iff.mp H
 obtain ⟨t151, A30, H⟩ := H
 replace H : (if t151 = true then (if 0 ≤ (a1.size : Int) then (if (a1.size : Int) ≤ (a0.size : Int) then (some (a0.extract ((a1.size : Int) : Int).toNat a0.size)) else (none)) else (none)) else (some a0)) = some r := H
 have A3 := bu A30
 clear A30
 by_cases c4 : t151 = true
 ·
  subst c4
  have H1 : (if 0 ≤ (a1.size : Int) then (if (a1.size : Int) ≤ (a0.size : Int) then (some (a0.extract ((a1.size : Int) : Int).toNat a0.size)) else (none)) else (none)) = some r := by rw [if_pos rfl] at H; exact H
  clear H
  have H := H1
  clear H1
  by_cases c5 : 0 ≤ (a1.size : Int)
  ·
   rw [if_pos c5] at H
   have c5b0 := eq_true c5
   have c5b1 : decide (0 ≤ (a1.size : Int)) = true := decide_eq_true c5
   clear c5
   by_cases c6 : (a1.size : Int) ≤ (a0.size : Int)
   ·
    rw [if_pos c6] at H
    have c6b0 := eq_true c6
    have c6b1 : decide ((a1.size : Int) ≤ (a0.size : Int)) = true := decide_eq_true c6
    clear c6
    obtain rfl := Option.some.inj H
    go_enter Tryd.func95, Tryd.ntmps95
    go_wp2_with (first | ((with_reducible refine bv (f := 99) rfl ?_); refine goesL_ (some 7) rfl rfl Tryd.func99 (by kernel_rfl) rfl #[.string a0, .string a1] rfl (by (try simp only [List.map_toArray, List.map_cons, List.map_nil]); first | done | rfl | (simp only [List.length_drop, List.length_take]; rfl)) ?_; (with_reducible refine (stringslite_HasPrefix.calls a0 a1 true _ A3.out).mono ?_); rintro e w' ⟨rfl, ⟨nd, rfl⟩⟩; refine ⟨_, rfl, ?_⟩))
    go_ret
    exact ⟨by first | rfl | (simp; done) | (simp [*]; done), by repeat (first | exact Drawn0.refl _ | apply Drawn0.step)⟩
   ·
    rw [if_neg c6] at H
    exact absurd H (by simp)
  ·
   rw [if_neg c5] at H
   exact absurd H (by simp)
 ·
  replace c4 := Bool.eq_false_iff.mpr c4
  subst c4
  have H1 : (some a0) = some r := by rw [if_neg (show ¬ (false = true) by decide)] at H; exact H
  clear H
  have H := H1
  clear H1
  obtain rfl := Option.some.inj H
  go_enter Tryd.func95, Tryd.ntmps95
  go_wp2_with (first | ((with_reducible refine bv (f := 99) rfl ?_); refine goesL_ (some 7) rfl rfl Tryd.func99 (by kernel_rfl) rfl #[.string a0, .string a1] rfl (by (try simp only [List.map_toArray, List.map_cons, List.map_nil]); first | done | rfl | (simp only [List.length_drop, List.length_take]; rfl)) ?_; (with_reducible refine (stringslite_HasPrefix.calls a0 a1 false _ A3.out).mono ?_); rintro e w' ⟨rfl, ⟨nd, rfl⟩⟩; refine ⟨_, rfl, ?_⟩))
  go_ret
  exact ⟨by first | rfl | (simp; done) | (simp [*]; done), by repeat (first | exact Drawn0.refl _ | apply Drawn0.step)⟩

/-! ### strings_TrimPrefix: function 88 -/
def strings_TrimPrefix.f (a0 : ByteArray) (a1 : ByteArray) : Option (ByteArray) := (stringslite_TrimPrefix.f a0 a1).bind fun t152 => (some t152)
set_option maxHeartbeats 8000000 in
set_option maxRecDepth 100000 in
theorem strings_TrimPrefix.calls (a0 : ByteArray) (a1 : ByteArray) (r : ByteArray) (w : World) (h : strings_TrimPrefix.f a0 a1 = some r) :
  Calls Tryd.prog 88 #[.string a0, .string a1] w fun e w' => e = .returned (.string r) ∧ Drawn0 w w' := by
 have H : ((stringslite_TrimPrefix.f a0 a1).bind fun t152 => (some t152)) = some r := h
 clear h
 replace H := Option.bind_eq_some_iff.mp H
 obtain ⟨t152, A30, H⟩ := H
 replace H : (some t152) = some r := H
 have A3 := bu A30
 clear A30
 obtain rfl := Option.some.inj H
 go_enter Tryd.func88, Tryd.ntmps88
 go_wp2_with (first | ((with_reducible refine bv (f := 95) rfl ?_); refine goesL_ (some 7) rfl rfl Tryd.func95 (by kernel_rfl) rfl #[.string a0, .string a1] rfl (by (try simp only [List.map_toArray, List.map_cons, List.map_nil]); first | done | rfl | (simp only [List.length_drop, List.length_take]; rfl)) ?_; (with_reducible refine (stringslite_TrimPrefix.calls a0 a1 t152 _ A3.out).mono ?_); rintro e w' ⟨rfl, ⟨nd, rfl⟩⟩; refine ⟨_, rfl, ?_⟩))
 go_ret
 exact ⟨by first | rfl | (simp; done) | (simp [*]; done), by repeat (first | exact Drawn0.refl _ | apply Drawn0.step)⟩

/-! ### number_sign: function 71 -/
def number_sign.f (a0 : ByteArray) : Option (ByteArray × Bool) := (strings_CutPrefix.f a0 (⟨#[45]⟩ : ByteArray)).bind fun bt153 => (if bt153.2 = true then (some (bt153.1, true)) else ((strings_TrimPrefix.f a0 (⟨#[43]⟩ : ByteArray)).bind fun t155 => (some (t155, false))))
set_option maxHeartbeats 8000000 in
set_option maxRecDepth 100000 in
theorem number_sign.calls (a0 : ByteArray) (r1 : ByteArray) (r2 : Bool) (w : World) (h : number_sign.f a0 = some (r1, r2)) :
  Calls Tryd.prog 71 #[.string a0] w fun e w' => e = .returned (.tuple #[.string r1, .bool r2]) ∧ Drawn0 w w' := by
 have H : ((strings_CutPrefix.f a0 (⟨#[45]⟩ : ByteArray)).bind fun bt153 => (if bt153.2 = true then (some (bt153.1, true)) else ((strings_TrimPrefix.f a0 (⟨#[43]⟩ : ByteArray)).bind fun t155 => (some (t155, false))))) = some (r1, r2) := h
 clear h
 replace H := Option.bind_eq_some_iff.mp H
 obtain ⟨⟨t153, t154⟩, A20, H⟩ := H
 replace H : (if t154 = true then (some (t153, true)) else ((strings_TrimPrefix.f a0 (⟨#[43]⟩ : ByteArray)).bind fun t155 => (some (t155, false)))) = some (r1, r2) := H
 have A2 := bu A20
 clear A20
 by_cases c3 : t154 = true
 ·
  subst c3
  have H1 : (some (t153, true)) = some (r1, r2) := by rw [if_pos rfl] at H; exact H
  clear H
  have H := H1
  clear H1
  simp only [Option.some.injEq, Prod.mk.injEq] at H
  obtain ⟨rfl, rfl⟩ := H
  go_enter Tryd.func71, Tryd.ntmps71
  go_wp2_with (first | ((with_reducible refine bv (f := 87) rfl ?_); refine goesL_ (some 8) rfl rfl Tryd.func87 (by kernel_rfl) rfl #[.string a0, .string (⟨#[45]⟩ : ByteArray)] rfl (by (try simp only [List.map_toArray, List.map_cons, List.map_nil]); first | done | rfl | (simp only [List.length_drop, List.length_take]; rfl)) ?_; (with_reducible refine (strings_CutPrefix.calls a0 (⟨#[45]⟩ : ByteArray) t153 true _ A2.out).mono ?_); rintro e w' ⟨rfl, ⟨nd, rfl⟩⟩; refine ⟨_, rfl, ?_⟩))
  go_ret2
  exact ⟨by first | rfl | (simp; done) | (simp [*]; done), by repeat (first | exact Drawn0.refl _ | apply Drawn0.step)⟩
 ·
  replace c3 := Bool.eq_false_iff.mpr c3
  subst c3
  have H1 : ((strings_TrimPrefix.f a0 (⟨#[43]⟩ : ByteArray)).bind fun t155 => (some (t155, false))) = some (r1, r2) := by rw [if_neg (show ¬ (false = true) by decide)] at H; exact H
  clear H
  have H := H1
  clear H1
  replace H := Option.bind_eq_some_iff.mp H
  obtain ⟨t155, A40, H⟩ := H
  replace H : (some (t155, false)) = some (r1, r2) := H
  have A4 := bu A40
  clear A40
  simp only [Option.some.injEq, Prod.mk.injEq] at H
  obtain ⟨rfl, rfl⟩ := H
  go_enter Tryd.func71, Tryd.ntmps71
  go_wp2_with (first | ((with_reducible refine bv (f := 87) rfl ?_); refine goesL_ (some 8) rfl rfl Tryd.func87 (by kernel_rfl) rfl #[.string a0, .string (⟨#[45]⟩ : ByteArray)] rfl (by (try simp only [List.map_toArray, List.map_cons, List.map_nil]); first | done | rfl | (simp only [List.length_drop, List.length_take]; rfl)) ?_; (with_reducible refine (strings_CutPrefix.calls a0 (⟨#[45]⟩ : ByteArray) t153 false _ A2.out).mono ?_); rintro e w' ⟨rfl, ⟨nd, rfl⟩⟩; refine ⟨_, rfl, ?_⟩) | ((with_reducible refine bv (f := 88) rfl ?_); refine goesL_ (some 14) rfl rfl Tryd.func88 (by kernel_rfl) rfl #[.string a0, .string (⟨#[43]⟩ : ByteArray)] rfl (by (try simp only [List.map_toArray, List.map_cons, List.map_nil]); first | done | rfl | (simp only [List.length_drop, List.length_take]; rfl)) ?_; (with_reducible refine (strings_TrimPrefix.calls a0 (⟨#[43]⟩ : ByteArray) t155 _ A4.out).mono ?_); rintro e w' ⟨rfl, ⟨nd, rfl⟩⟩; refine ⟨_, rfl, ?_⟩))
  go_ret2
  exact ⟨by first | rfl | (simp; done) | (simp [*]; done), by repeat (first | exact Drawn0.refl _ | apply Drawn0.step)⟩

/-! ### number_digits: function 72 -/
def hexes : ByteArray := ⟨#[48, 49, 50, 51, 52, 53, 54, 55, 56, 57, 97, 98, 99, 100, 101, 102]⟩
def digC (base : Int) (c : Int) : Int := (Lib.indexByte (hexes.extract 0 base.toNat).data.toList (if 65 ≤ c ∧ c ≤ 70 then Go.bits .or .u8 c 32 else c).toNat.toUInt8)
def digGo (base : Int) : List Int → Int → Option Int
  | [], n => some n
  | c :: l, n => if digC base c < 0 then none else digGo base l (IntKind.u64.wrap (IntKind.u64.wrap (n * base) + digC base c))
theorem digC_range (base c : Int) (h0 : 0 ≤ base) (h1 : base ≤ 16) : -1 ≤ digC base c ∧ digC base c ≤ 16 := by
 unfold digC
 have h := XC.indexByte_range (hexes.extract 0 base.toNat).data.toList (if 65 ≤ c ∧ c ≤ 70 then Go.bits .or .u8 c 32 else c).toNat.toUInt8
 have hl : (hexes.extract 0 base.toNat).data.toList.length ≤ 16 := by
  rw [Lib.extract_data, List.length_take]
  have : base.toNat ≤ 16 := by omega
  omega
 omega
def number_digits.f (a0 : ByteArray) (a1 : Int) : Option (Int × Bool) :=
  if 0 ≤ a1 ∧ a1 ≤ 16 ∧ a0.size ≤ 9223372036854775807 then some (match digGo a1 (bytesOf a0) 0 with | some n => (n, decide (0 < a0.size)) | none => (0, false)) else none
set_option maxHeartbeats 4000000 in
set_option maxRecDepth 100000 in
theorem number_digits.calls (a0 : ByteArray) (a1 : Int) (r1 : Int) (r2 : Bool) (w : World) (h : number_digits.f a0 a1 = some (r1, r2)) :
  Calls Tryd.prog 72 #[.string a0, .int .i64 a1] w fun e w' => e = .returned (.tuple #[.int .u64 r1, .bool r2]) ∧ Below w.heap.size w w' := by
 unfold number_digits.f at h
 split at h
 ·
  rename_i hh
  obtain ⟨hb0, hb1, hs⟩ := hh
  have H := bu (Option.some.inj h)
  clear h
  have kb := fun W => print_bytes (P := Tryd.prog) 9 74 5 Tryd.underlying9 Tryd.underlying74 Tryd.underlying5 a0 W
  have HS := bu hs
  go_enter Tryd.func72, Tryd.ntmps72
  go_wp2
  go_loopg [6, 8, 9, 13] a0.size (fun gg s6 s8 s9 s13 wr => ∃ (kk : Nat) (n : Int) (v8 v9 : Value), s8 = v8 ∧ s9 = v9 ∧ kk ≤ a0.size ∧ a0.size - kk ≤ gg ∧ s13 = .int .i64 kk ∧ s6 = .int .u64 n ∧ Aside0 (Below w.heap.size w wr) ∧ Aside0 (Below (Lib.bytesWorld w 5 a0).heap.size (Lib.bytesWorld w 5 a0) wr) ∧ Aside0 (digGo a1 ((bytesOf a0).drop kk) n = digGo a1 (bytesOf a0) 0))
  case atStart => exact ⟨0, 0, _, _, rfl, rfl, Nat.zero_le _, by omega, rfl, rfl, ⟨bytes_below (bw _ _) (Nat.le_refl _) _ _⟩, ⟨bw _ _⟩, ⟨by simp⟩⟩
  case round =>
   obtain ⟨kk, n, v8, v9, rfl, rfl, hkk, hg, rfl, rfl, HB, HB2, HG⟩ := hrel
   by_cases hlt : kk < a0.size
   ·
    have hltz : (kk : Int) < (a0.size : Int) := by omega
    have hcell : wr.cell? ⟨w.heap.size, kk, none⟩ = some (.int .u8 (bt a0 kk)) := XC.byte_cell HB2.out hlt HS.out
    have hrange := bt_range a0 kk
    have hdrop := XC.bytes_drop a0 kk hlt
    generalize bt a0 kk = c at hcell hrange hdrop
    obtain ⟨hr0, hr1⟩ := hrange
    have HD := bu hdrop
    clear hdrop
    have hdc := strings_IndexByte.calls (hexes.extract 0 a1.toNat) (if 65 ≤ c ∧ c ≤ 70 then Go.bits .or .u8 c 32 else c) _ wr rfl
    have hdr := digC_range a1 c hb0 hb1
    change Calls _ _ _ _ (fun e w' => e = .returned (.int .i64 (digC a1 c)) ∧ _) at hdc
    have HE : Aside0 (digGo a1 ((bytesOf a0).drop kk) n = if digC a1 c < 0 then none else digGo a1 ((bytesOf a0).drop (kk + 1)) (IntKind.u64.wrap (IntKind.u64.wrap (n * a1) + digC a1 c))) := ⟨by rw [HD.out]; rfl⟩
    generalize digC a1 c = d at hdc hdr HE
    obtain ⟨hd0, hd1⟩ := hdr
    unfold hexes at hdc
    by_cases hc : 65 ≤ c ∧ c ≤ 70
    ·
     rw [if_pos hc] at hdc
     obtain ⟨hc1, hc2⟩ := hc
     by_cases hdn : d < 0
     ·
      have HR : Aside0 (r1 = 0 ∧ r2 = false) := ⟨by have h1 := H.out; rw [← HG.out, HE.out, if_pos hdn] at h1; simp only [Prod.mk.injEq] at h1; exact ⟨h1.1.symm, h1.2.symm⟩⟩
      go_wp2_with (go_at_call 66; refine hdc.mono ?_; rintro e w' ⟨rfl, ⟨nd, rfl⟩⟩)
      go_ret2
      exact ⟨by rw [HR.out.1, HR.out.2]; rfl, bj HB.out _⟩
     ·
      have hdp : 0 ≤ d := by omega
      have HE2 := bu (HE.out.trans (if_neg hdn))
      go_wp2_with (go_at_call 66; refine hdc.mono ?_; rintro e w' ⟨rfl, ⟨nd, rfl⟩⟩)
      go_roundg (a0.size - (kk + 1))
      case measure => omega
      case rel => exact ⟨kk + 1, _, _, _, rfl, rfl, by omega, by omega, by go_num, rfl, ⟨bj HB.out _⟩, ⟨bj HB2.out _⟩, ⟨HE2.out.symm.trans HG.out⟩⟩
    ·
     rw [if_neg hc] at hdc
     by_cases hc1 : 65 ≤ c
     ·
      have hc2 : ¬ c ≤ 70 := fun h => hc ⟨hc1, h⟩
      clear hc
      by_cases hdn : d < 0
      ·
       have HR : Aside0 (r1 = 0 ∧ r2 = false) := ⟨by have h1 := H.out; rw [← HG.out, HE.out, if_pos hdn] at h1; simp only [Prod.mk.injEq] at h1; exact ⟨h1.1.symm, h1.2.symm⟩⟩
       go_wp2_with (go_at_call 66; refine hdc.mono ?_; rintro e w' ⟨rfl, ⟨nd, rfl⟩⟩)
       go_ret2
       exact ⟨by rw [HR.out.1, HR.out.2]; rfl, bj HB.out _⟩
      ·
       have hdp : 0 ≤ d := by omega
       have HE2 := bu (HE.out.trans (if_neg hdn))
       go_wp2_with (go_at_call 66; refine hdc.mono ?_; rintro e w' ⟨rfl, ⟨nd, rfl⟩⟩)
       go_roundg (a0.size - (kk + 1))
       case measure => omega
       case rel => exact ⟨kk + 1, _, _, _, rfl, rfl, by omega, by omega, by go_num, rfl, ⟨bj HB.out _⟩, ⟨bj HB2.out _⟩, ⟨HE2.out.symm.trans HG.out⟩⟩
     ·
      clear hc
      by_cases hdn : d < 0
      ·
       have HR : Aside0 (r1 = 0 ∧ r2 = false) := ⟨by have h1 := H.out; rw [← HG.out, HE.out, if_pos hdn] at h1; simp only [Prod.mk.injEq] at h1; exact ⟨h1.1.symm, h1.2.symm⟩⟩
       go_wp2_with (go_at_call 66; refine hdc.mono ?_; rintro e w' ⟨rfl, ⟨nd, rfl⟩⟩)
       go_ret2
       exact ⟨by rw [HR.out.1, HR.out.2]; rfl, bj HB.out _⟩
      ·
       have hdp : 0 ≤ d := by omega
       have HE2 := bu (HE.out.trans (if_neg hdn))
       go_wp2_with (go_at_call 66; refine hdc.mono ?_; rintro e w' ⟨rfl, ⟨nd, rfl⟩⟩)
       go_roundg (a0.size - (kk + 1))
       case measure => omega
       case rel => exact ⟨kk + 1, _, _, _, rfl, rfl, by omega, by omega, by go_num, rfl, ⟨bj HB.out _⟩, ⟨bj HB2.out _⟩, ⟨HE2.out.symm.trans HG.out⟩⟩
   ·
    have hltz : ¬ (kk : Int) < (a0.size : Int) := by omega
    have hkz : kk = a0.size := by omega
    have HE : Aside0 (r1 = n ∧ r2 = decide (0 < a0.size)) := ⟨by
     have h1 := H.out
     rw [← HG.out, List.drop_eq_nil_of_le (by rw [bytesOf_length]; omega)] at h1
     simp only [digGo, Prod.mk.injEq] at h1
     exact ⟨h1.1.symm, h1.2.symm⟩⟩
    clear hkz
    have HZ := bu (XC.ne_empty a0)
    go_wp2
    go_ret2
    exact ⟨by rw [HE.out.1, HE.out.2, HZ.out]; rfl, HB.out⟩
 ·
  exact absurd h (by simp)

/-! ### number_Parse: function 55 -/
def number_Parse.f (a0 : ByteArray) : Option (Int × Int) := (strings_Trim.f a0 (⟨#[32, 9]⟩ : ByteArray)).bind fun t156 => ((number_sign.f t156).bind fun bt157 => ((number_digits.f bt157.1 10).bind fun bt159 => (if bt159.2 = true then (if bt157.2 = true then (some (wrap64 (IntKind.u64.wrap (-bt159.1)), 0)) else (some (wrap64 (bt159.1), 0))) else (some (0, 33)))))
set_option maxHeartbeats 8000000 in
set_option maxRecDepth 100000 in
theorem number_Parse.calls (a0 : ByteArray) (r1 : Int) (r2 : Int) (w : World) (h : number_Parse.f a0 = some (r1, r2)) :
  Calls Tryd.prog 55 #[.string a0] w fun e w' => e = .returned (.tuple #[.int .i64 r1, .int .i64 r2]) ∧ Below w.heap.size w w' := by
 have HB := bu (bw w.heap.size w)
 have H : ((strings_Trim.f a0 (⟨#[32, 9]⟩ : ByteArray)).bind fun bA => ((number_sign.f bA).bind fun bt157 => ((number_digits.f bt157.1 10).bind fun bz => (if bz.2 = true then (if bt157.2 = true then (some (wrap64 (IntKind.u64.wrap (-bz.1)), 0)) else (some (wrap64 (bz.1), 0))) else (some (0, 33)))))) = some (r1, r2) := h
 clear h
 replace H := Option.bind_eq_some_iff.mp H
 obtain ⟨bA, A20, H⟩ := H
 replace H : ((number_sign.f bA).bind fun bt157 => ((number_digits.f bt157.1 10).bind fun bz => (if bz.2 = true then (if bt157.2 = true then (some (wrap64 (IntKind.u64.wrap (-bz.1)), 0)) else (some (wrap64 (bz.1), 0))) else (some (0, 33))))) = some (r1, r2) := H
 have A2 := bu A20
 clear A20
 replace H := Option.bind_eq_some_iff.mp H
 obtain ⟨⟨t157, t158⟩, A30, H⟩ := H
 replace H : ((number_digits.f t157 10).bind fun bz => (if bz.2 = true then (if t158 = true then (some (wrap64 (IntKind.u64.wrap (-bz.1)), 0)) else (some (wrap64 (bz.1), 0))) else (some (0, 33)))) = some (r1, r2) := H
 have A3 := bu A30
 clear A30
 replace H := Option.bind_eq_some_iff.mp H
 obtain ⟨⟨t159, t160⟩, A40, H⟩ := H
 replace H : (if t160 = true then (if t158 = true then (some (wrap64 (IntKind.u64.wrap (-t159)), 0)) else (some (wrap64 (t159), 0))) else (some (0, 33))) = some (r1, r2) := H
 have A4 := bu A40
 clear A40
 by_cases c5 : t160 = true
 ·
  subst c5
  have H1 : (if t158 = true then (some (wrap64 (IntKind.u64.wrap (-t159)), 0)) else (some (wrap64 (t159), 0))) = some (r1, r2) := by rw [if_pos rfl] at H; exact H
  clear H
  have H := H1
  clear H1
  by_cases c6 : t158 = true
  ·
   subst c6
   have H1 : (some (wrap64 (IntKind.u64.wrap (-t159)), 0)) = some (r1, r2) := by rw [if_pos rfl] at H; exact H
   clear H
   have H := H1
   clear H1
   simp only [Option.some.injEq, Prod.mk.injEq] at H
   obtain ⟨rfl, rfl⟩ := H
   go_enter Tryd.func55, Tryd.ntmps55
   go_wp2_with (first | ((with_reducible refine bv (f := 56) rfl ?_); refine goesL_ (some 10) rfl rfl Tryd.func56 (by kernel_rfl) rfl #[.string a0, .string (⟨#[32, 9]⟩ : ByteArray)] rfl (by (try simp only [List.map_toArray, List.map_cons, List.map_nil]); first | done | rfl | (simp only [List.length_drop, List.length_take]; rfl)) ?_; (with_reducible refine (strings_Trim.calls a0 (⟨#[32, 9]⟩ : ByteArray) bA _ A2.out).mono ?_); rintro e w7 ⟨rfl, hb⟩; refine ⟨_, rfl, ?_⟩; have n0_ := bu (below_step (by repeat (first | (with_reducible first | exact HB.out | apply bm | apply bj | apply bn) | exact HB.out)) hb); clear HB; have HB := n0_; clear n0_; (try clear hb); (try clear hb2); (try clear hk); (try clear hi)) | ((with_reducible refine bv (f := 71) rfl ?_); refine goesL_ (some 11) rfl rfl Tryd.func71 (by kernel_rfl) rfl #[.string bA] rfl (by (try simp only [List.map_toArray, List.map_cons, List.map_nil]); first | done | rfl | (simp only [List.length_drop, List.length_take]; rfl)) ?_; (with_reducible refine (number_sign.calls bA t157 true _ A3.out).mono ?_); rintro e w' ⟨rfl, ⟨nd, rfl⟩⟩; refine ⟨_, rfl, ?_⟩) | ((with_reducible refine bv (f := 72) rfl ?_); refine goesL_ (some 16) rfl rfl Tryd.func72 (by kernel_rfl) rfl #[.string t157, .int .i64 10] rfl (by (try simp only [List.map_toArray, List.map_cons, List.map_nil]); first | done | rfl | (simp only [List.length_drop, List.length_take]; rfl)) ?_; (with_reducible refine (number_digits.calls t157 10 t159 true _ A4.out).mono ?_); rintro e w8 ⟨rfl, hb⟩; refine ⟨_, rfl, ?_⟩; have n0_ := bu (below_step (by repeat (first | (with_reducible first | exact HB.out | apply bm | apply bj | apply bn) | exact HB.out)) hb); clear HB; have HB := n0_; clear n0_; (try clear hb); (try clear hb2); (try clear hk); (try clear hi)))
   go_ret2
   exact ⟨by first | rfl | (simp [errW_none, errW_some] <;> rfl) | (simp [*, errW_none, errW_some] <;> rfl), by repeat (first | (with_reducible first | exact HB.out | apply bm | apply bj | apply bn) | exact HB.out)⟩
  ·
   replace c6 := Bool.eq_false_iff.mpr c6
   subst c6
   have H1 : (some (wrap64 (t159), 0)) = some (r1, r2) := by rw [if_neg (show ¬ (false = true) by decide)] at H; exact H
   clear H
   have H := H1
   clear H1
   simp only [Option.some.injEq, Prod.mk.injEq] at H
   obtain ⟨rfl, rfl⟩ := H
   go_enter Tryd.func55, Tryd.ntmps55
   go_wp2_with (first | ((with_reducible refine bv (f := 56) rfl ?_); refine goesL_ (some 10) rfl rfl Tryd.func56 (by kernel_rfl) rfl #[.string a0, .string (⟨#[32, 9]⟩ : ByteArray)] rfl (by (try simp only [List.map_toArray, List.map_cons, List.map_nil]); first | done | rfl | (simp only [List.length_drop, List.length_take]; rfl)) ?_; (with_reducible refine (strings_Trim.calls a0 (⟨#[32, 9]⟩ : ByteArray) bA _ A2.out).mono ?_); rintro e w9 ⟨rfl, hb⟩; refine ⟨_, rfl, ?_⟩; have n0_ := bu (below_step (by repeat (first | (with_reducible first | exact HB.out | apply bm | apply bj | apply bn) | exact HB.out)) hb); clear HB; have HB := n0_; clear n0_; (try clear hb); (try clear hb2); (try clear hk); (try clear hi)) | ((with_reducible refine bv (f := 71) rfl ?_); refine goesL_ (some 11) rfl rfl Tryd.func71 (by kernel_rfl) rfl #[.string bA] rfl (by (try simp only [List.map_toArray, List.map_cons, List.map_nil]); first | done | rfl | (simp only [List.length_drop, List.length_take]; rfl)) ?_; (with_reducible refine (number_sign.calls bA t157 false _ A3.out).mono ?_); rintro e w' ⟨rfl, ⟨nd, rfl⟩⟩; refine ⟨_, rfl, ?_⟩) | ((with_reducible refine bv (f := 72) rfl ?_); refine goesL_ (some 16) rfl rfl Tryd.func72 (by kernel_rfl) rfl #[.string t157, .int .i64 10] rfl (by (try simp only [List.map_toArray, List.map_cons, List.map_nil]); first | done | rfl | (simp only [List.length_drop, List.length_take]; rfl)) ?_; (with_reducible refine (number_digits.calls t157 10 t159 true _ A4.out).mono ?_); rintro e w10 ⟨rfl, hb⟩; refine ⟨_, rfl, ?_⟩; have n0_ := bu (below_step (by repeat (first | (with_reducible first | exact HB.out | apply bm | apply bj | apply bn) | exact HB.out)) hb); clear HB; have HB := n0_; clear n0_; (try clear hb); (try clear hb2); (try clear hk); (try clear hi)))
   go_ret2
   exact ⟨by first | rfl | (simp [errW_none, errW_some] <;> rfl) | (simp [*, errW_none, errW_some] <;> rfl), by repeat (first | (with_reducible first | exact HB.out | apply bm | apply bj | apply bn) | exact HB.out)⟩
 ·
  replace c5 := Bool.eq_false_iff.mpr c5
  subst c5
  have H1 : (some (0, 33)) = some (r1, r2) := by rw [if_neg (show ¬ (false = true) by decide)] at H; exact H
  clear H
  have H := H1
  clear H1
  simp only [Option.some.injEq, Prod.mk.injEq] at H
  obtain ⟨rfl, rfl⟩ := H
  go_enter Tryd.func55, Tryd.ntmps55
  go_wp2_with (first | ((with_reducible refine bv (f := 56) rfl ?_); refine goesL_ (some 10) rfl rfl Tryd.func56 (by kernel_rfl) rfl #[.string a0, .string (⟨#[32, 9]⟩ : ByteArray)] rfl (by (try simp only [List.map_toArray, List.map_cons, List.map_nil]); first | done | rfl | (simp only [List.length_drop, List.length_take]; rfl)) ?_; (with_reducible refine (strings_Trim.calls a0 (⟨#[32, 9]⟩ : ByteArray) bA _ A2.out).mono ?_); rintro e w11 ⟨rfl, hb⟩; refine ⟨_, rfl, ?_⟩; have n0_ := bu (below_step (by repeat (first | (with_reducible first | exact HB.out | apply bm | apply bj | apply bn) | exact HB.out)) hb); clear HB; have HB := n0_; clear n0_; (try clear hb); (try clear hb2); (try clear hk); (try clear hi)) | ((with_reducible refine bv (f := 71) rfl ?_); refine goesL_ (some 11) rfl rfl Tryd.func71 (by kernel_rfl) rfl #[.string bA] rfl (by (try simp only [List.map_toArray, List.map_cons, List.map_nil]); first | done | rfl | (simp only [List.length_drop, List.length_take]; rfl)) ?_; (with_reducible refine (number_sign.calls bA t157 t158 _ A3.out).mono ?_); rintro e w' ⟨rfl, ⟨nd, rfl⟩⟩; refine ⟨_, rfl, ?_⟩) | ((with_reducible refine bv (f := 72) rfl ?_); refine goesL_ (some 16) rfl rfl Tryd.func72 (by kernel_rfl) rfl #[.string t157, .int .i64 10] rfl (by (try simp only [List.map_toArray, List.map_cons, List.map_nil]); first | done | rfl | (simp only [List.length_drop, List.length_take]; rfl)) ?_; (with_reducible refine (number_digits.calls t157 10 t159 false _ A4.out).mono ?_); rintro e w12 ⟨rfl, hb⟩; refine ⟨_, rfl, ?_⟩; have n0_ := bu (below_step (by repeat (first | (with_reducible first | exact HB.out | apply bm | apply bj | apply bn) | exact HB.out)) hb); clear HB; have HB := n0_; clear n0_; (try clear hb); (try clear hb2); (try clear hk); (try clear hi)))
  go_ret2
  exact ⟨by first | rfl | (simp [errW_none, errW_some] <;> rfl) | (simp [*, errW_none, errW_some] <;> rfl), by repeat (first | (with_reducible first | exact HB.out | apply bm | apply bj | apply bn) | exact HB.out)⟩

/-! ### strings_TrimLeft: function 57 -/
def strings_TrimLeft.f (a0 : ByteArray) (a1 : ByteArray) : Option ByteArray :=
  if a1.size < 4294967281 ∧ a1.data.toList.all (fun b => decide (b.toNat < 128)) = true then some ⟨(Lib.trimLeftS a0.data.toList a1.data.toList).toArray⟩ else none
theorem strings_TrimLeft.calls (a0 : ByteArray) (a1 : ByteArray) (r : ByteArray) (w : World) (h : strings_TrimLeft.f a0 a1 = some r) :
  Calls Tryd.prog 57 #[.string a0, .string a1] w fun e w' => e = .returned (.string r) ∧ Below w.heap.size w w' := by
 unfold strings_TrimLeft.f at h
 split at h
 ·
  rename_i hh
  obtain rfl := Option.some.inj h
  exact Any.strings_TrimLeft_laid Tryd.lays161 (by kernel_rfl) a0 a1 w hh.1 (XC.ascii_at hh.2)
 ·
  exact absurd h (by simp)

/-! ### vars_Store_argument: function 32 -/
def vars_Store_argument.f (l0_0 : List (S53)) (l0_1 : List ByteArray) (a0_2 : Int) (a1 : ByteArray) : Option (ByteArray × Bool) := if 0 ≤ (mx (wrap64 ((a1.size : Int) - 5)) 0) then (if (mx (wrap64 ((a1.size : Int) - 5)) 0) ≤ (a1.size : Int) then ((number_Parse.f (a1.extract ((mx (wrap64 ((a1.size : Int) - 5)) 0) : Int).toNat a1.size)).bind fun bt162 => ((strings_Trim.f a1 (⟨#[48]⟩ : ByteArray)).bind fun t164 => (if t164.toList = ([] : List UInt8) then (some ((⟨#[115, 104]⟩ : ByteArray), true)) else ((strings_TrimLeft.f a1 (⟨#[48]⟩ : ByteArray)).bind fun t165 => (if (t165.size : Int) > 5 then (some ((⟨#[]⟩ : ByteArray), false)) else (if bt162.1 > (l0_1.length : Int) then (some ((⟨#[]⟩ : ByteArray), false)) else (if 0 ≤ (wrap64 (bt162.1 - 1)) then (if (wrap64 (bt162.1 - 1)) < (l0_1.length : Int) then (some (rdOf ByteArray.empty l0_1 (wrap64 (bt162.1 - 1)), true)) else (none)) else (none)))))))) else (none)) else (none)
set_option maxHeartbeats 8000000 in
set_option maxRecDepth 100000 in
theorem vars_Store_argument.calls (bH : Option Addr) (bI : Nat) (bD : List (S53)) (bJ : Option Addr) (bK : Nat) (bA : List ByteArray) (bL : Int) (a1 : ByteArray) (r1 : ByteArray) (r2 : Bool) (w : World) (hr0_0 : Kd.C k53 w bH bD.length bD) (hc0_0 : bD.length ≤ bI) (hr0_1 : Kd.C Kd.string w bJ bA.length bA) (hc0_1 : bA.length ≤ bK) (h : vars_Store_argument.f bD bA bL a1 = some (r1, r2)) :
  Calls Tryd.prog 32 #[.agg #[.slice bH bD.length bI, .slice bJ bA.length bK, .int .i64 bL], .string a1] w fun e w' => e = .returned (.tuple #[.string r1, .bool r2]) ∧ Below w.heap.size w w' := by
 have hu27 := Tryd.underlying27
 have HR0_0 := bu hr0_0
 have HC0_0 := bu hc0_0
 clear hr0_0 hc0_0
 have HR0_1 := bu hr0_1
 have HC0_1 := bu hc0_1
 clear hr0_1 hc0_1
 have HB := bu (bw w.heap.size w)
 have H : (if 0 ≤ (mx (wrap64 ((a1.size : Int) - 5)) 0) then (if (mx (wrap64 ((a1.size : Int) - 5)) 0) ≤ (a1.size : Int) then ((number_Parse.f (a1.extract ((mx (wrap64 ((a1.size : Int) - 5)) 0) : Int).toNat a1.size)).bind fun bO => ((strings_Trim.f a1 (⟨#[48]⟩ : ByteArray)).bind fun bN => (if bN.toList = ([] : List UInt8) then (some ((⟨#[115, 104]⟩ : ByteArray), true)) else ((strings_TrimLeft.f a1 (⟨#[48]⟩ : ByteArray)).bind fun bM => (if (bM.size : Int) > 5 then (some ((⟨#[]⟩ : ByteArray), false)) else (if bO.1 > (bA.length : Int) then (some ((⟨#[]⟩ : ByteArray), false)) else (if 0 ≤ (wrap64 (bO.1 - 1)) then (if (wrap64 (bO.1 - 1)) < (bA.length : Int) then (some (rdOf ByteArray.empty bA (wrap64 (bO.1 - 1)), true)) else (none)) else (none)))))))) else (none)) else (none)) = some (r1, r2) := h
 clear h
 obtain ⟨ji3, hji3⟩ : ∃ j_ : Int, (mx (wrap64 ((a1.size : Int) - 5)) 0) = j_ := ⟨_, rfl⟩
 replace H : (if 0 ≤ (ji3) then (if (ji3) ≤ (a1.size : Int) then ((number_Parse.f (a1.extract ((ji3) : Int).toNat a1.size)).bind fun bO => ((strings_Trim.f a1 (⟨#[48]⟩ : ByteArray)).bind fun bN => (if bN.toList = ([] : List UInt8) then (some ((⟨#[115, 104]⟩ : ByteArray), true)) else ((strings_TrimLeft.f a1 (⟨#[48]⟩ : ByteArray)).bind fun bM => (if (bM.size : Int) > 5 then (some ((⟨#[]⟩ : ByteArray), false)) else (if bO.1 > (bA.length : Int) then (some ((⟨#[]⟩ : ByteArray), false)) else (if 0 ≤ (wrap64 (bO.1 - 1)) then (if (wrap64 (bO.1 - 1)) < (bA.length : Int) then (some (rdOf ByteArray.empty bA (wrap64 (bO.1 - 1)), true)) else (none)) else (none)))))))) else (none)) else (none)) = some (r1, r2) := by first | (rw [hji3] at H; exact H) | (simp only [hji3] at H ⊢; exact H)
 (try (have hji3l : 0 ≤ ji3 := by (rw [← hji3]; unfold mx; (repeat' split) <;> omega)))
 (try (have hji3m : 0 ≤ ji3 := by omega))
 have hji3_ : (if (wrap64 ((a1.size : Int) - 5)) < 0 then 0 else (wrap64 ((a1.size : Int) - 5))) = ji3 := hji3
 by_cases c4 : 0 ≤ (ji3)
 ·
  rw [if_pos c4] at H
  have c4b0 := eq_true c4
  have c4b1 : decide (0 ≤ (ji3)) = true := decide_eq_true c4
  clear c4
  by_cases c5 : (ji3) ≤ (a1.size : Int)
  ·
   rw [if_pos c5] at H
   have c5b0 := eq_true c5
   have c5b1 : decide ((ji3) ≤ (a1.size : Int)) = true := decide_eq_true c5
   clear c5
   replace H := Option.bind_eq_some_iff.mp H
   obtain ⟨⟨bG, t163⟩, A60, H⟩ := H
   replace H : ((strings_Trim.f a1 (⟨#[48]⟩ : ByteArray)).bind fun bN => (if bN.toList = ([] : List UInt8) then (some ((⟨#[115, 104]⟩ : ByteArray), true)) else ((strings_TrimLeft.f a1 (⟨#[48]⟩ : ByteArray)).bind fun bM => (if (bM.size : Int) > 5 then (some ((⟨#[]⟩ : ByteArray), false)) else (if bG > (bA.length : Int) then (some ((⟨#[]⟩ : ByteArray), false)) else (if 0 ≤ (wrap64 (bG - 1)) then (if (wrap64 (bG - 1)) < (bA.length : Int) then (some (rdOf ByteArray.empty bA (wrap64 (bG - 1)), true)) else (none)) else (none))))))) = some (r1, r2) := H
   have A6 := bu A60
   clear A60
   replace H := Option.bind_eq_some_iff.mp H
   obtain ⟨bN, A70, H⟩ := H
   replace H : (if bN.toList = ([] : List UInt8) then (some ((⟨#[115, 104]⟩ : ByteArray), true)) else ((strings_TrimLeft.f a1 (⟨#[48]⟩ : ByteArray)).bind fun bM => (if (bM.size : Int) > 5 then (some ((⟨#[]⟩ : ByteArray), false)) else (if bG > (bA.length : Int) then (some ((⟨#[]⟩ : ByteArray), false)) else (if 0 ≤ (wrap64 (bG - 1)) then (if (wrap64 (bG - 1)) < (bA.length : Int) then (some (rdOf ByteArray.empty bA (wrap64 (bG - 1)), true)) else (none)) else (none)))))) = some (r1, r2) := H
   have A7 := bu A70
   clear A70
   by_cases c8 : bN.toList = ([] : List UInt8)
   ·
    rw [if_pos c8] at H
    have c8b0 : (bN.toList == ([] : List UInt8)) = true := beq_iff_eq.mpr c8
    have c8b1 : (bN.toList != ([] : List UInt8)) = false := bne_eq_false_iff_eq.mpr c8
    clear c8
    simp only [Option.some.injEq, Prod.mk.injEq] at H
    obtain ⟨rfl, rfl⟩ := H
    go_enter Tryd.func32, Tryd.ntmps32
    go_wp2_with (first | ((with_reducible refine gate_dst (N := 2) rfl ?_); (try (refine gate_guard (by rfl) ?_; dsimp only)); refine box_event ?hg (N := 2) ?hd (cs := #[.slice bH bD.length bI, .slice bJ bA.length bK, .int .i64 bL]) (t := 27) ?hr ?_; (case hd => rfl); (case hg => rfl); (case hr => first | (go_simp; done) | (go_simp; rfl)); intro bB hg w9 hbox hb; have bE := bu (below_step (by repeat (first | (with_reducible first | exact HB.out | apply bm | apply bj | apply bn) | exact HB.out)) hb); have bF := bu (hbox); have n2_ := bu ((by rw [hg]; exact (bs (by repeat (first | (with_reducible first | exact HB.out | apply bm | apply bj | apply bn) | exact HB.out))) : w.heap.size ≤ bB)); have n3_ := bu ((by rw [hg]; exact (bs (by repeat (first | (with_reducible first | exact HB.out | apply bm | apply bj | apply bn) | exact HB.out))) : w.heap.size ≤ bB)); clear HB; have HB := bE; have bz := bF; have GW161 := n2_; have bC := n3_; clear bE bF n2_ n3_; clear hb hbox hg) | ((with_reducible refine bv (f := 55) rfl ?_); refine goesL_ (some 15) rfl rfl Tryd.func55 (by kernel_rfl) rfl #[.string (a1.extract ((ji3) : Int).toNat a1.size)] rfl (by (try simp only [List.map_toArray, List.map_cons, List.map_nil]); first | done | (simp only [hji3]; rfl) | rfl | (simp only [List.length_drop, List.length_take]; rfl)) ?_; (with_reducible refine (number_Parse.calls (a1.extract ((ji3) : Int).toNat a1.size) bG t163 _ A6.out).mono ?_); rintro e w10 ⟨rfl, hb⟩; refine ⟨_, rfl, ?_⟩; have bE := bu (bl (g := bB) (o := .cells #[.slice bH bD.length bI, .slice bJ bA.length bK, .int .i64 bL] 27 (0, 0)) (by (with_reducible repeat (first | refine a4 ?_ _ | refine bh ?_ | refine a5 ?_ _)); exact bz.out) hb); have bF := bu (below_step (by repeat (first | (with_reducible first | exact HB.out | apply bm | apply bj | apply bn | refine bi ?_ bC.out) | exact HB.out)) hb); clear bz; clear HB; have bz := bE; have HB := bF; clear bE bF; (try clear hb); (try clear hb2); (try clear hk); (try clear hi)) | ((with_reducible refine bv (f := 56) rfl ?_); refine goesL_ (some 20) rfl rfl Tryd.func56 (by kernel_rfl) rfl #[.string a1, .string (⟨#[48]⟩ : ByteArray)] rfl (by (try simp only [List.map_toArray, List.map_cons, List.map_nil]); first | done | rfl | (simp only [List.length_drop, List.length_take]; rfl)) ?_; (with_reducible refine (strings_Trim.calls a1 (⟨#[48]⟩ : ByteArray) bN _ A7.out).mono ?_); rintro e w11 ⟨rfl, hb⟩; refine ⟨_, rfl, ?_⟩; have bE := bu (bl (g := bB) (o := .cells #[.slice bH bD.length bI, .slice bJ bA.length bK, .int .i64 bL] 27 (0, 0)) (by (with_reducible repeat (first | refine a4 ?_ _ | refine bh ?_ | refine a5 ?_ _)); exact bz.out) hb); have bF := bu (below_step (by repeat (first | (with_reducible first | exact HB.out | apply bm | apply bj | apply bn | refine bi ?_ bC.out) | exact HB.out)) hb); clear bz; clear HB; have bz := bE; have HB := bF; clear bE bF; (try clear hb); (try clear hb2); (try clear hk); (try clear hi)))
    go_ret2
    exact ⟨by first | rfl | (simp [errW_none, errW_some] <;> rfl) | (simp only [← hji3]; first | rfl | (simp [errW_none, errW_some] <;> rfl)) | (simp [*, errW_none, errW_some] <;> rfl), by repeat (first | (with_reducible first | exact HB.out | apply bm | apply bj | apply bn | refine bi ?_ bC.out) | exact HB.out)⟩
   ·
    rw [if_neg c8] at H
    have c8b0 : (bN.toList == ([] : List UInt8)) = false := beq_eq_false_iff_ne.mpr c8
    have c8b1 : (bN.toList != ([] : List UInt8)) = true := bne_iff_ne.mpr c8
    replace H := Option.bind_eq_some_iff.mp H
    obtain ⟨bM, A120, H⟩ := H
    replace H : (if (bM.size : Int) > 5 then (some ((⟨#[]⟩ : ByteArray), false)) else (if bG > (bA.length : Int) then (some ((⟨#[]⟩ : ByteArray), false)) else (if 0 ≤ (wrap64 (bG - 1)) then (if (wrap64 (bG - 1)) < (bA.length : Int) then (some (rdOf ByteArray.empty bA (wrap64 (bG - 1)), true)) else (none)) else (none)))) = some (r1, r2) := H
    have A12 := bu A120
    clear A120
    by_cases c13 : (bM.size : Int) > 5
    ·
     rw [if_pos c13] at H
     have c13b0 : decide (5 < (bM.size : Int)) = true := decide_eq_true c13
     have c13b1 : decide (5 < bM.size) = true := decide_eq_true (by omega)
     clear c13
     simp only [Option.some.injEq, Prod.mk.injEq] at H
     obtain ⟨rfl, rfl⟩ := H
     go_enter Tryd.func32, Tryd.ntmps32
     go_wp2_with (first | ((with_reducible refine gate_dst (N := 2) rfl ?_); (try (refine gate_guard (by rfl) ?_; dsimp only)); refine box_event ?hg (N := 2) ?hd (cs := #[.slice bH bD.length bI, .slice bJ bA.length bK, .int .i64 bL]) (t := 27) ?hr ?_; (case hd => rfl); (case hg => rfl); (case hr => first | (go_simp; done) | (go_simp; rfl)); intro bB hg w14 hbox hb; have bE := bu (below_step (by repeat (first | (with_reducible first | exact HB.out | apply bm | apply bj | apply bn) | exact HB.out)) hb); have bF := bu (hbox); have n2_ := bu ((by rw [hg]; exact (bs (by repeat (first | (with_reducible first | exact HB.out | apply bm | apply bj | apply bn) | exact HB.out))) : w.heap.size ≤ bB)); have n3_ := bu ((by rw [hg]; exact (bs (by repeat (first | (with_reducible first | exact HB.out | apply bm | apply bj | apply bn) | exact HB.out))) : w.heap.size ≤ bB)); clear HB; have HB := bE; have bz := bF; have GW161 := n2_; have bC := n3_; clear bE bF n2_ n3_; clear hb hbox hg) | ((with_reducible refine bv (f := 55) rfl ?_); refine goesL_ (some 15) rfl rfl Tryd.func55 (by kernel_rfl) rfl #[.string (a1.extract ((ji3) : Int).toNat a1.size)] rfl (by (try simp only [List.map_toArray, List.map_cons, List.map_nil]); first | done | (simp only [hji3]; rfl) | rfl | (simp only [List.length_drop, List.length_take]; rfl)) ?_; (with_reducible refine (number_Parse.calls (a1.extract ((ji3) : Int).toNat a1.size) bG t163 _ A6.out).mono ?_); rintro e w15 ⟨rfl, hb⟩; refine ⟨_, rfl, ?_⟩; have bE := bu (bl (g := bB) (o := .cells #[.slice bH bD.length bI, .slice bJ bA.length bK, .int .i64 bL] 27 (0, 0)) (by (with_reducible repeat (first | refine a4 ?_ _ | refine bh ?_ | refine a5 ?_ _)); exact bz.out) hb); have bF := bu (below_step (by repeat (first | (with_reducible first | exact HB.out | apply bm | apply bj | apply bn | refine bi ?_ bC.out) | exact HB.out)) hb); clear bz; clear HB; have bz := bE; have HB := bF; clear bE bF; (try clear hb); (try clear hb2); (try clear hk); (try clear hi)) | ((with_reducible refine bv (f := 56) rfl ?_); refine goesL_ (some 20) rfl rfl Tryd.func56 (by kernel_rfl) rfl #[.string a1, .string (⟨#[48]⟩ : ByteArray)] rfl (by (try simp only [List.map_toArray, List.map_cons, List.map_nil]); first | done | rfl | (simp only [List.length_drop, List.length_take]; rfl)) ?_; (with_reducible refine (strings_Trim.calls a1 (⟨#[48]⟩ : ByteArray) bN _ A7.out).mono ?_); rintro e w16 ⟨rfl, hb⟩; refine ⟨_, rfl, ?_⟩; have bE := bu (bl (g := bB) (o := .cells #[.slice bH bD.length bI, .slice bJ bA.length bK, .int .i64 bL] 27 (0, 0)) (by (with_reducible repeat (first | refine a4 ?_ _ | refine bh ?_ | refine a5 ?_ _)); exact bz.out) hb); have bF := bu (below_step (by repeat (first | (with_reducible first | exact HB.out | apply bm | apply bj | apply bn | refine bi ?_ bC.out) | exact HB.out)) hb); clear bz; clear HB; have bz := bE; have HB := bF; clear bE bF; (try clear hb); (try clear hb2); (try clear hk); (try clear hi)) | ((with_reducible refine bv (f := 57) rfl ?_); refine goesL_ (some 24) rfl rfl Tryd.func57 (by kernel_rfl) rfl #[.string a1, .string (⟨#[48]⟩ : ByteArray)] rfl (by (try simp only [List.map_toArray, List.map_cons, List.map_nil]); first | done | rfl | (simp only [List.length_drop, List.length_take]; rfl)) ?_; (with_reducible refine (strings_TrimLeft.calls a1 (⟨#[48]⟩ : ByteArray) bM _ A12.out).mono ?_); rintro e w17 ⟨rfl, hb⟩; refine ⟨_, rfl, ?_⟩; have bE := bu (bl (g := bB) (o := .cells #[.slice bH bD.length bI, .slice bJ bA.length bK, .int .i64 bL] 27 (0, 0)) (by (with_reducible repeat (first | refine a4 ?_ _ | refine bh ?_ | refine a5 ?_ _)); exact bz.out) hb); have bF := bu (below_step (by repeat (first | (with_reducible first | exact HB.out | apply bm | apply bj | apply bn | refine bi ?_ bC.out) | exact HB.out)) hb); clear bz; clear HB; have bz := bE; have HB := bF; clear bE bF; (try clear hb); (try clear hb2); (try clear hk); (try clear hi)))
     go_ret2
     exact ⟨by first | rfl | (simp [errW_none, errW_some] <;> rfl) | (simp only [← hji3]; first | rfl | (simp [errW_none, errW_some] <;> rfl)) | (simp [*, errW_none, errW_some] <;> rfl), by repeat (first | (with_reducible first | exact HB.out | apply bm | apply bj | apply bn | refine bi ?_ bC.out) | exact HB.out)⟩
    ·
     rw [if_neg c13] at H
     have c13b0 : decide (5 < (bM.size : Int)) = false := decide_eq_false c13
     have c13b1 : decide (5 < bM.size) = false := decide_eq_false (by omega)
     clear c13
     by_cases c18 : bG > (bA.length : Int)
     ·
      rw [if_pos c18] at H
      have c18b0 : decide ((bA.length : Int) < bG) = true := decide_eq_true c18
      clear c18
      simp only [Option.some.injEq, Prod.mk.injEq] at H
      obtain ⟨rfl, rfl⟩ := H
      go_enter Tryd.func32, Tryd.ntmps32
      go_wp2_with (first | ((with_reducible refine gate_dst (N := 2) rfl ?_); (try (refine gate_guard (by rfl) ?_; dsimp only)); refine box_event ?hg (N := 2) ?hd (cs := #[.slice bH bD.length bI, .slice bJ bA.length bK, .int .i64 bL]) (t := 27) ?hr ?_; (case hd => rfl); (case hg => rfl); (case hr => first | (go_simp; done) | (go_simp; rfl)); intro bB hg w19 hbox hb; have bE := bu (below_step (by repeat (first | (with_reducible first | exact HB.out | apply bm | apply bj | apply bn) | exact HB.out)) hb); have bF := bu (hbox); have n2_ := bu ((by rw [hg]; exact (bs (by repeat (first | (with_reducible first | exact HB.out | apply bm | apply bj | apply bn) | exact HB.out))) : w.heap.size ≤ bB)); have n3_ := bu ((by rw [hg]; exact (bs (by repeat (first | (with_reducible first | exact HB.out | apply bm | apply bj | apply bn) | exact HB.out))) : w.heap.size ≤ bB)); clear HB; have HB := bE; have bz := bF; have GW161 := n2_; have bC := n3_; clear bE bF n2_ n3_; clear hb hbox hg) | ((with_reducible refine bv (f := 55) rfl ?_); refine goesL_ (some 15) rfl rfl Tryd.func55 (by kernel_rfl) rfl #[.string (a1.extract ((ji3) : Int).toNat a1.size)] rfl (by (try simp only [List.map_toArray, List.map_cons, List.map_nil]); first | done | (simp only [hji3]; rfl) | rfl | (simp only [List.length_drop, List.length_take]; rfl)) ?_; (with_reducible refine (number_Parse.calls (a1.extract ((ji3) : Int).toNat a1.size) bG t163 _ A6.out).mono ?_); rintro e w20 ⟨rfl, hb⟩; refine ⟨_, rfl, ?_⟩; have bE := bu (bl (g := bB) (o := .cells #[.slice bH bD.length bI, .slice bJ bA.length bK, .int .i64 bL] 27 (0, 0)) (by (with_reducible repeat (first | refine a4 ?_ _ | refine bh ?_ | refine a5 ?_ _)); exact bz.out) hb); have bF := bu (below_step (by repeat (first | (with_reducible first | exact HB.out | apply bm | apply bj | apply bn | refine bi ?_ bC.out) | exact HB.out)) hb); clear bz; clear HB; have bz := bE; have HB := bF; clear bE bF; (try clear hb); (try clear hb2); (try clear hk); (try clear hi)) | ((with_reducible refine bv (f := 56) rfl ?_); refine goesL_ (some 20) rfl rfl Tryd.func56 (by kernel_rfl) rfl #[.string a1, .string (⟨#[48]⟩ : ByteArray)] rfl (by (try simp only [List.map_toArray, List.map_cons, List.map_nil]); first | done | rfl | (simp only [List.length_drop, List.length_take]; rfl)) ?_; (with_reducible refine (strings_Trim.calls a1 (⟨#[48]⟩ : ByteArray) bN _ A7.out).mono ?_); rintro e w21 ⟨rfl, hb⟩; refine ⟨_, rfl, ?_⟩; have bE := bu (bl (g := bB) (o := .cells #[.slice bH bD.length bI, .slice bJ bA.length bK, .int .i64 bL] 27 (0, 0)) (by (with_reducible repeat (first | refine a4 ?_ _ | refine bh ?_ | refine a5 ?_ _)); exact bz.out) hb); have bF := bu (below_step (by repeat (first | (with_reducible first | exact HB.out | apply bm | apply bj | apply bn | refine bi ?_ bC.out) | exact HB.out)) hb); clear bz; clear HB; have bz := bE; have HB := bF; clear bE bF; (try clear hb); (try clear hb2); (try clear hk); (try clear hi)) | ((with_reducible refine bv (f := 57) rfl ?_); refine goesL_ (some 24) rfl rfl Tryd.func57 (by kernel_rfl) rfl #[.string a1, .string (⟨#[48]⟩ : ByteArray)] rfl (by (try simp only [List.map_toArray, List.map_cons, List.map_nil]); first | done | rfl | (simp only [List.length_drop, List.length_take]; rfl)) ?_; (with_reducible refine (strings_TrimLeft.calls a1 (⟨#[48]⟩ : ByteArray) bM _ A12.out).mono ?_); rintro e w22 ⟨rfl, hb⟩; refine ⟨_, rfl, ?_⟩; have bE := bu (bl (g := bB) (o := .cells #[.slice bH bD.length bI, .slice bJ bA.length bK, .int .i64 bL] 27 (0, 0)) (by (with_reducible repeat (first | refine a4 ?_ _ | refine bh ?_ | refine a5 ?_ _)); exact bz.out) hb); have bF := bu (below_step (by repeat (first | (with_reducible first | exact HB.out | apply bm | apply bj | apply bn | refine bi ?_ bC.out) | exact HB.out)) hb); clear bz; clear HB; have bz := bE; have HB := bF; clear bE bF; (try clear hb); (try clear hb2); (try clear hk); (try clear hi); have hcz23_0 : w22.cell? ⟨bB, 0, none⟩ = some (.slice bH bD.length bI) := (bo bz.out 0).trans rfl; have hcz23_1 : w22.cell? ⟨bB, 1, none⟩ = some (.slice bJ bA.length bK) := (bo bz.out 1).trans rfl; have hcz23_2 : w22.cell? ⟨bB, 2, none⟩ = some (.int .i64 bL) := (bo bz.out 2).trans rfl; have hfz23_0 := bk bz.out 0; have hfz23_1 := bk bz.out 1; have hfz23_2 := bk bz.out 2))
      go_ret2
      exact ⟨by first | rfl | (simp [errW_none, errW_some] <;> rfl) | (simp only [← hji3]; first | rfl | (simp [errW_none, errW_some] <;> rfl)) | (simp [*, errW_none, errW_some] <;> rfl), by repeat (first | (with_reducible first | exact HB.out | apply bm | apply bj | apply bn | refine bi ?_ bC.out) | exact HB.out)⟩
     ·
      rw [if_neg c18] at H
      have c18b0 : decide ((bA.length : Int) < bG) = false := decide_eq_false c18
      clear c18
      obtain ⟨ji24, hji24⟩ : ∃ j_ : Int, (wrap64 (bG - 1)) = j_ := ⟨_, rfl⟩
      replace H : (if 0 ≤ (ji24) then (if (ji24) < (bA.length : Int) then (some (rdOf ByteArray.empty bA (ji24), true)) else (none)) else (none)) = some (r1, r2) := by first | (rw [hji24] at H; exact H) | (simp only [hji24] at H ⊢; exact H)
      (try rw [hji24] at A6)
      (try rw [hji24] at A7)
      (try rw [hji24] at A12)
      have hji24w : (IntKind.i64.wrap (bG - 1)) = ji24 := (i64_w _).trans hji24
      by_cases c25 : 0 ≤ (ji24)
      ·
       rw [if_pos c25] at H
       have c25b0 : decide (0 ≤ (ji24)) = true := decide_eq_true c25
       clear c25
       by_cases c26 : (ji24) < (bA.length : Int)
       ·
        rw [if_pos c26] at H
        have c26b0 : decide ((ji24) < (bA.length : Int)) = true := decide_eq_true c26
        clear c26
        simp only [Option.some.injEq, Prod.mk.injEq] at H
        obtain ⟨rfl, rfl⟩ := H
        go_enter Tryd.func32, Tryd.ntmps32
        go_wp2_with (first | ((with_reducible refine gate_dst (N := 2) rfl ?_); (try (refine gate_guard (by rfl) ?_; dsimp only)); refine box_event ?hg (N := 2) ?hd (cs := #[.slice bH bD.length bI, .slice bJ bA.length bK, .int .i64 bL]) (t := 27) ?hr ?_; (case hd => rfl); (case hg => rfl); (case hr => first | (go_simp; done) | (go_simp; rfl)); intro bB hg w27 hbox hb; have bE := bu (below_step (by repeat (first | (with_reducible first | exact HB.out | apply bm | apply bj | apply bn) | exact HB.out)) hb); have bF := bu (hbox); have n2_ := bu ((by rw [hg]; exact (bs (by repeat (first | (with_reducible first | exact HB.out | apply bm | apply bj | apply bn) | exact HB.out))) : w.heap.size ≤ bB)); have n3_ := bu ((by rw [hg]; exact (bs (by repeat (first | (with_reducible first | exact HB.out | apply bm | apply bj | apply bn) | exact HB.out))) : w.heap.size ≤ bB)); clear HB; have HB := bE; have bz := bF; have GW161 := n2_; have bC := n3_; clear bE bF n2_ n3_; clear hb hbox hg) | ((with_reducible refine bv (f := 55) rfl ?_); refine goesL_ (some 15) rfl rfl Tryd.func55 (by kernel_rfl) rfl #[.string (a1.extract ((ji3) : Int).toNat a1.size)] rfl (by (try simp only [List.map_toArray, List.map_cons, List.map_nil]); first | done | (simp only [hji3]; rfl) | rfl | (simp only [List.length_drop, List.length_take]; rfl)) ?_; (with_reducible refine (number_Parse.calls (a1.extract ((ji3) : Int).toNat a1.size) bG t163 _ A6.out).mono ?_); rintro e w28 ⟨rfl, hb⟩; refine ⟨_, rfl, ?_⟩; have bE := bu (bl (g := bB) (o := .cells #[.slice bH bD.length bI, .slice bJ bA.length bK, .int .i64 bL] 27 (0, 0)) (by (with_reducible repeat (first | refine a4 ?_ _ | refine bh ?_ | refine a5 ?_ _)); exact bz.out) hb); have bF := bu (below_step (by repeat (first | (with_reducible first | exact HB.out | apply bm | apply bj | apply bn | refine bi ?_ bC.out) | exact HB.out)) hb); clear bz; clear HB; have bz := bE; have HB := bF; clear bE bF; (try clear hb); (try clear hb2); (try clear hk); (try clear hi)) | ((with_reducible refine bv (f := 56) rfl ?_); refine goesL_ (some 20) rfl rfl Tryd.func56 (by kernel_rfl) rfl #[.string a1, .string (⟨#[48]⟩ : ByteArray)] rfl (by (try simp only [List.map_toArray, List.map_cons, List.map_nil]); first | done | rfl | (simp only [List.length_drop, List.length_take]; rfl)) ?_; (with_reducible refine (strings_Trim.calls a1 (⟨#[48]⟩ : ByteArray) bN _ A7.out).mono ?_); rintro e w29 ⟨rfl, hb⟩; refine ⟨_, rfl, ?_⟩; have bE := bu (bl (g := bB) (o := .cells #[.slice bH bD.length bI, .slice bJ bA.length bK, .int .i64 bL] 27 (0, 0)) (by (with_reducible repeat (first | refine a4 ?_ _ | refine bh ?_ | refine a5 ?_ _)); exact bz.out) hb); have bF := bu (below_step (by repeat (first | (with_reducible first | exact HB.out | apply bm | apply bj | apply bn | refine bi ?_ bC.out) | exact HB.out)) hb); clear bz; clear HB; have bz := bE; have HB := bF; clear bE bF; (try clear hb); (try clear hb2); (try clear hk); (try clear hi)) | ((with_reducible refine bv (f := 57) rfl ?_); refine goesL_ (some 24) rfl rfl Tryd.func57 (by kernel_rfl) rfl #[.string a1, .string (⟨#[48]⟩ : ByteArray)] rfl (by (try simp only [List.map_toArray, List.map_cons, List.map_nil]); first | done | rfl | (simp only [List.length_drop, List.length_take]; rfl)) ?_; (with_reducible refine (strings_TrimLeft.calls a1 (⟨#[48]⟩ : ByteArray) bM _ A12.out).mono ?_); rintro e w30 ⟨rfl, hb⟩; refine ⟨_, rfl, ?_⟩; have bE := bu (bl (g := bB) (o := .cells #[.slice bH bD.length bI, .slice bJ bA.length bK, .int .i64 bL] 27 (0, 0)) (by (with_reducible repeat (first | refine a4 ?_ _ | refine bh ?_ | refine a5 ?_ _)); exact bz.out) hb); have bF := bu (below_step (by repeat (first | (with_reducible first | exact HB.out | apply bm | apply bj | apply bn | refine bi ?_ bC.out) | exact HB.out)) hb); clear bz; clear HB; have bz := bE; have HB := bF; clear bE bF; (try clear hb); (try clear hb2); (try clear hk); (try clear hi); have hcz31_0 : w30.cell? ⟨bB, 0, none⟩ = some (.slice bH bD.length bI) := (bo bz.out 0).trans rfl; have hcz31_1 : w30.cell? ⟨bB, 1, none⟩ = some (.slice bJ bA.length bK) := (bo bz.out 1).trans rfl; have hcz31_2 : w30.cell? ⟨bB, 2, none⟩ = some (.int .i64 bL) := (bo bz.out 2).trans rfl; have hfz31_0 := bk bz.out 0; have hfz31_1 := bk bz.out 1; have hfz31_2 := bk bz.out 2; have p166 : 0 ≤ ((ji24) : Int) := of_decide_eq_true (by first | (with_reducible assumption) | assumption); have q166 : (ji24) < (bA.length : Int) := of_decide_eq_true (by first | (with_reducible assumption) | assumption); obtain ⟨ad166, e166, hx166_0⟩ := Kd.at_string HR0_1.out (ji24) p166 q166; cases e166; replace hx166_0 := (HB.out.cell (World.block_lt_of_cell? w _ hx166_0)).trans hx166_0; replace p166 := eq_true p166; replace q166 := eq_true q166))
        go_ret2
        exact ⟨by first | rfl | (simp [errW_none, errW_some] <;> rfl) | (simp only [← hji3, ← hji24]; first | rfl | (simp [errW_none, errW_some] <;> rfl)) | (simp [*, errW_none, errW_some] <;> rfl), by repeat (first | (with_reducible first | exact HB.out | apply bm | apply bj | apply bn | refine bi ?_ bC.out) | exact HB.out)⟩
       ·
        rw [if_neg c26] at H
        exact absurd H (by simp)
      ·
       rw [if_neg c25] at H
       exact absurd H (by simp)
  ·
   rw [if_neg c5] at H
   exact absurd H (by simp)
 ·
  rw [if_neg c4] at H
  exact absurd H (by simp)

end Go.Proofs.YtpljochiegallaaDoor.XVB
