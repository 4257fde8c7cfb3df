-- WRITTEN BY xprint.py, a program of this session (over the kit's print)
import Derived.Test.YtpljochiegallaaDoorBXVBx0
namespace Go.Proofs.YtpljochiegallaaDoor.XVB
open Go.RowKit Go.Proofs.YtpljochiegallaaDoorW.PrintWords Go.Proofs.YtpljochiegallaaDoorW.PrintLast Go.Proofs.YtpljochiegallaaDoorW.PrintMore
attribute [local go_sem] max2_int min2_int max_two min_two max_three min_three max_four min_four   -- for this text's walks alone
set_option linter.unusedVariables false
set_option linter.unusedSimpArgs false

/-! ### octets_digit: function 54 -/
def octets_digit.f (a0 : Int) : Option (Bool) := if a0 ≥ 48 then (some (decide (a0 ≤ 57))) else (some false)
set_option maxHeartbeats 8000000 in
set_option maxRecDepth 100000 in
theorem octets_digit.calls (a0 : Int) (r : Bool) (w : World) (h : octets_digit.f a0 = some r) :
  Calls Tryd.prog 54 #[.int .u8 a0] w fun e w' => e = .returned (.bool r) ∧ Drawn0 w w' := by
 have H : (if a0 ≥ 48 then (some (decide (a0 ≤ 57))) else (some false)) = some r := h
 clear h
 by_cases c2 : a0 ≥ 48
 ·
  rw [if_pos c2] at H
  have c2b0 : decide (48 ≤ a0) = true := decide_eq_true c2
  clear c2
  obtain rfl := Option.some.inj H
  go_enter Tryd.func54, Tryd.ntmps54
  go_wp2
  go_ret
  exact ⟨by first | rfl | (simp; done) | (simp [*]; done), by repeat (first | exact Drawn0.refl _ | apply Drawn0.step)⟩
 ·
  rw [if_neg c2] at H
  have c2b0 : decide (48 ≤ a0) = false := decide_eq_false c2
  clear c2
  obtain rfl := Option.some.inj H
  go_enter Tryd.func54, Tryd.ntmps54
  go_wp2
  go_ret
  exact ⟨by first | rfl | (simp; done) | (simp [*]; done), by repeat (first | exact Drawn0.refl _ | apply Drawn0.step)⟩

/-! ### octets_letter: function 61 -/
def octets_letter.f (a0 : Int) : Option (Bool) := if (Go.bits .or .u8 a0 32) ≥ 97 then (if (Go.bits .or .u8 a0 32) ≤ 122 then (if a0 < 128 then (some true) else (some (a0 == 95))) else (some (a0 == 95))) else (some (a0 == 95))
set_option maxHeartbeats 8000000 in
set_option maxRecDepth 100000 in
theorem octets_letter.calls (a0 : Int) (r : Bool) (w : World) (h : octets_letter.f a0 = some r) :
  Calls Tryd.prog 61 #[.int .u8 a0] w fun e w' => e = .returned (.bool r) ∧ Drawn0 w w' := by
 have H : (if (Go.bits .or .u8 a0 32) ≥ 97 then (if (Go.bits .or .u8 a0 32) ≤ 122 then (if a0 < 128 then (some true) else (some (a0 == 95))) else (some (a0 == 95))) else (some (a0 == 95))) = some r := h
 clear h
 by_cases c2 : (Go.bits .or .u8 a0 32) ≥ 97
 ·
  rw [if_pos c2] at H
  have c2b0 : decide (97 ≤ (Go.bits .or .u8 a0 32)) = true := decide_eq_true c2
  clear c2
  by_cases c3 : (Go.bits .or .u8 a0 32) ≤ 122
  ·
   rw [if_pos c3] at H
   have c3b0 : decide ((Go.bits .or .u8 a0 32) ≤ 122) = true := decide_eq_true c3
   clear c3
   by_cases c4 : a0 < 128
   ·
    rw [if_pos c4] at H
    have c4b0 : decide (a0 < 128) = true := decide_eq_true c4
    clear c4
    obtain rfl := Option.some.inj H
    go_enter Tryd.func61, Tryd.ntmps61
    go_wp2
    go_ret
    exact ⟨by first | rfl | (simp; done) | (simp [*]; done), by repeat (first | exact Drawn0.refl _ | apply Drawn0.step)⟩
   ·
    rw [if_neg c4] at H
    have c4b0 : decide (a0 < 128) = false := decide_eq_false c4
    clear c4
    obtain rfl := Option.some.inj H
    go_enter Tryd.func61, Tryd.ntmps61
    go_wp2
    go_ret
    exact ⟨by first | rfl | (simp; done) | (simp [*]; done), by repeat (first | exact Drawn0.refl _ | apply Drawn0.step)⟩
  ·
   rw [if_neg c3] at H
   have c3b0 : decide ((Go.bits .or .u8 a0 32) ≤ 122) = false := decide_eq_false c3
   clear c3
   obtain rfl := Option.some.inj H
   go_enter Tryd.func61, Tryd.ntmps61
   go_wp2
   go_ret
   exact ⟨by first | rfl | (simp; done) | (simp [*]; done), by repeat (first | exact Drawn0.refl _ | apply Drawn0.step)⟩
 ·
  rw [if_neg c2] at H
  have c2b0 : decide (97 ≤ (Go.bits .or .u8 a0 32)) = false := decide_eq_false c2
  clear c2
  obtain rfl := Option.some.inj H
  go_enter Tryd.func61, Tryd.ntmps61
  go_wp2
  go_ret
  exact ⟨by first | rfl | (simp; done) | (simp [*]; done), by repeat (first | exact Drawn0.refl _ | apply Drawn0.step)⟩

/-! ### octets_Name_1: function 60 -/
def octets_Name_1.f (a0 : Int) : Option (Bool) := (octets_letter.f a0).bind fun t101 => (if t101 = true then (some true) else ((octets_digit.f a0).bind fun t102 => (some t102)))
set_option maxHeartbeats 8000000 in
set_option maxRecDepth 100000 in
theorem octets_Name_1.calls (a0 : Int) (r : Bool) (w : World) (h : octets_Name_1.f a0 = some r) :
  Calls Tryd.prog 60 #[.int .u8 a0] w fun e w' => e = .returned (.bool r) ∧ Drawn0 w w' := by
 have H : ((octets_letter.f a0).bind fun t101 => (if t101 = true then (some true) else ((octets_digit.f a0).bind fun t102 => (some t102)))) = some r := h
 clear h
 replace H := Option.bind_eq_some_iff.mp H
 obtain ⟨t101, A20, H⟩ := H
 replace H : (if t101 = true then (some true) else ((octets_digit.f a0).bind fun t102 => (some t102))) = some r := H
 have A2 := bu A20
 clear A20
 by_cases c3 : t101 = true
 ·
  subst c3
  have H1 : (some true) = some r := by rw [if_pos rfl] at H; exact H
  clear H
  have H := H1
  clear H1
  obtain rfl := Option.some.inj H
  go_enter Tryd.func60, Tryd.ntmps60
  go_wp2_with (first | ((with_reducible refine bv (f := 61) rfl ?_); refine goesL_ (some 4) rfl rfl Tryd.func61 (by kernel_rfl) rfl #[.int .u8 a0] rfl (by (try simp only [List.map_toArray, List.map_cons, List.map_nil]); first | done | rfl | (simp only [List.length_drop, List.length_take]; rfl)) ?_; (with_reducible refine (octets_letter.calls a0 true _ A2.out).mono ?_); rintro e w' ⟨rfl, ⟨nd, rfl⟩⟩; refine ⟨_, rfl, ?_⟩))
  go_ret
  exact ⟨by first | rfl | (simp; done) | (simp [*]; done), by repeat (first | exact Drawn0.refl _ | apply Drawn0.step)⟩
 ·
  replace c3 := Bool.eq_false_iff.mpr c3
  subst c3
  have H1 : ((octets_digit.f a0).bind fun t102 => (some t102)) = some r := by rw [if_neg (show ¬ (false = true) by decide)] at H; exact H
  clear H
  have H := H1
  clear H1
  replace H := Option.bind_eq_some_iff.mp H
  obtain ⟨t102, A40, H⟩ := H
  replace H : (some t102) = some r := H
  have A4 := bu A40
  clear A40
  obtain rfl := Option.some.inj H
  go_enter Tryd.func60, Tryd.ntmps60
  go_wp2_with (first | ((with_reducible refine bv (f := 61) rfl ?_); refine goesL_ (some 4) rfl rfl Tryd.func61 (by kernel_rfl) rfl #[.int .u8 a0] rfl (by (try simp only [List.map_toArray, List.map_cons, List.map_nil]); first | done | rfl | (simp only [List.length_drop, List.length_take]; rfl)) ?_; (with_reducible refine (octets_letter.calls a0 false _ A2.out).mono ?_); rintro e w' ⟨rfl, ⟨nd, rfl⟩⟩; refine ⟨_, rfl, ?_⟩) | (go_at_call 54; (with_reducible refine (octets_digit.calls a0 t102 _ A4.out).mono ?_); rintro e w' ⟨rfl, ⟨nd, rfl⟩⟩))
  go_ret
  exact ⟨by first | rfl | (simp; done) | (simp [*]; done), by repeat (first | exact Drawn0.refl _ | apply Drawn0.step)⟩

/-! ### octets_Name: function 34 -/
set_option maxHeartbeats 2000000 in
theorem ixf_byte.calls (g : Nat) (caps : Array Value) (eg : ∀ args w, (callFunc g args).run Tryd.prog w = .ok (.enter g args) w) (p : Int → Bool) (A : Option Addr) (c : Nat) (l : List Int) (w : World) (hr : Kd.C (Kd.int .u8) w A l.length l)
  (hp : ∀ (W : World) (x : Int), Below w.heap.size w W → x ∈ l → Calls Tryd.prog g (#[.int .u8 x] ++ caps) W fun e W' => e = .returned (.bool (p x)) ∧ Below W.heap.size W W') :
  Calls Tryd.prog 86 #[.slice A l.length c, .func (.func g) #[] caps] w fun e w' => e = .returned (.int .i64 (XC.idxI p l)) ∧ Below w.heap.size w w' := by
 have hbig : l.length ≤ 9223372036854775807 := hr.2.1
 have HR := bu hr
 have HP := bu hp
 clear hr hp
 go_enter Tryd.func86, Tryd.ntmps86
 go_wp2
 go_loopg [5, 8] l.length (fun gg _ s8 wr => ∃ kk : Nat, kk ≤ l.length ∧ l.length - kk ≤ gg ∧ s8 = .int .i64 kk ∧ Aside0 (Below w.heap.size w wr) ∧ Aside0 (∀ j, j < kk → p (l.getD j 0) = false))
 case atStart => exact ⟨0, Nat.zero_le _, by omega, rfl, ⟨bw _ _⟩, ⟨fun j hj => absurd hj (Nat.not_lt_zero _)⟩⟩
 case round =>
  obtain ⟨kk, hkk, hg, rfl, HB, HA⟩ := hrel
  by_cases hlt : kk < l.length
  ·
   have hltz : (kk : Int) < (l.length : Int) := by omega
   obtain ⟨ad, cs, rfl, _, hK, hc0⟩ := Kd.C_get (br HR.out HB.out) (0 : Int) kk (by omega) (by omega)
   have hcs : cs = [.int .u8 (l.getD kk 0)] := hK
   subst hcs
   have hcell : wr.cell? (ad.add kk) = some (.int .u8 (l.getD kk 0)) := by
    have := hc0 0 _ rfl
    simpa [Kd.int, Kd.scalar] using this
   clear hc0 hK
   have hcall := HP.out wr (l.getD kk 0) HB.out (by rw [XC.getD_at l 0 kk hlt]; exact List.getElem_mem hlt)
   generalize hx : l.getD kk 0 = x at hcell hcall
   have HX := bu hx
   clear hx
   cases hq : p x with
   | true =>
    rw [hq] at hcall
    have HQ := bu hq
    clear hq
    go_wp2_with (go_at_fn g; refine hcall.mono ?_; rintro e w' ⟨rfl, hb'⟩)
    go_ret
    exact ⟨by rw [XC.idxI_hit p l 0 kk hlt (by rw [HX.out]; exact HQ.out) HA.out]; rfl, XC.below_chain HB.out hb'⟩
   | false =>
    rw [hq] at hcall
    have HQ := bu hq
    clear hq
    go_wp2_with (go_at_fn g; refine hcall.mono ?_; rintro e w' ⟨rfl, hb'⟩)
    go_roundg (l.length - (kk + 1))
    case measure => omega
    case rel =>
     refine ⟨kk + 1, by omega, by omega, by go_num, ⟨XC.below_chain HB.out hb'⟩, ⟨fun j hj => ?_⟩⟩
     by_cases e : j = kk
     ·
      subst e; rw [HX.out]; exact HQ.out
     ·
      exact HA.out j (by omega)
  ·
   have hltz : ¬ (kk : Int) < (l.length : Int) := by omega
   have HE : Aside0 (kk = l.length) := ⟨by omega⟩
   go_wp2
   go_ret
   exact ⟨by rw [XC.idxI_miss p l 0 (by rw [← HE.out]; exact HA.out)]; rfl, HB.out⟩
set_option maxHeartbeats 2000000 in
theorem cof_byte.calls (g : Nat) (caps : Array Value) (eg : ∀ args w, (callFunc g args).run Tryd.prog w = .ok (.enter g args) w) (p : Int → Bool) (A : Option Addr) (c : Nat) (l : List Int) (w : World) (hr : Kd.C (Kd.int .u8) w A l.length l)
  (hp : ∀ (W : World) (x : Int), Below w.heap.size w W → x ∈ l → Calls Tryd.prog g (#[.int .u8 x] ++ caps) W fun e W' => e = .returned (.bool (p x)) ∧ Below W.heap.size W W') :
  Calls Tryd.prog 69 #[.slice A l.length c, .func (.func g) #[] caps] w fun e w' => e = .returned (.bool (l.any p)) ∧ Below w.heap.size w w' := by
 have hc := ixf_byte.calls g caps eg p A c l w hr hp
 have e1 := XC.idxI_geq p l
 have e2 := XC.idxI_lt p l
 generalize XC.idxI p l = i at hc e1 e2
 have HE := bu e1
 clear hr hp e1 e2
 go_enter Tryd.func69, Tryd.ntmps69
 go_wp2_with (go_at_call 86; refine hc.mono ?_; rintro e w' ⟨rfl, hb⟩)
 go_ret
 exact ⟨by rw [← HE.out]; rfl, hb⟩
set_option maxHeartbeats 1000000 in
theorem every1.calls (g : Nat) (eg : ∀ args w, (callFunc g args).run Tryd.prog w = .ok (.enter g args) w) (b : Nat) (x : Int) (q : Bool) (W : World) (hc : W.cell? ⟨b, 0, none⟩ = some (.func (.func g) #[] #[]))
  (hp : Calls Tryd.prog g #[.int .u8 x] W fun e W' => e = .returned (.bool q) ∧ Below W.heap.size W W') :
  Calls Tryd.prog 70 #[.int .u8 x, .pointer (some ⟨b, 0, none⟩)] W fun e W' => e = .returned (.bool (!q)) ∧ Below W.heap.size W W' := by
 go_enter Tryd.func70, Tryd.ntmps70
 go_wp2_with (go_at_fn g; refine hp.mono ?_; rintro e w' ⟨rfl, hb'⟩)
 go_ret
 exact ⟨rfl, hb'⟩
set_option maxHeartbeats 1000000 in
theorem octets_every.calls (g : Nat) (eg : ∀ args w, (callFunc g args).run Tryd.prog w = .ok (.enter g args) w) (p : Int → Bool) (s : ByteArray) (hs : s.size ≤ 9223372036854775807) (w : World)
  (hp : ∀ (W : World) (x : Int), x ∈ bytesOf s → Calls Tryd.prog g #[.int .u8 x] W fun e W' => e = .returned (.bool (p x)) ∧ Below W.heap.size W W') :
  Calls Tryd.prog 53 #[.string s, .func (.func g) #[] #[]] w fun e w' => e = .returned (.bool (decide (0 < s.size) && (bytesOf s).all p)) ∧ Below w.heap.size w w' := by
 have kb := fun W => print_bytes (P := Tryd.prog) 9 74 5 Tryd.underlying9 Tryd.underlying74 Tryd.underlying5 s W
 have e1 : ∀ args w, (callFunc 70 args).run Tryd.prog w = .ok (.enter 70 args) w := XC.enters Tryd.func70 (by kernel_rfl) rfl
 have HP := bu hp
 clear hp
 by_cases h0 : s.toList = []
 ·
  have hz : s.size = 0 := by rw [← XC.size_toList, h0]; rfl
  have HZ := bu hz
  clear hz
  go_enter Tryd.func53, Tryd.ntmps53
  go_wp2
  go_ret
  exact ⟨by rw [HZ.out]; rfl, bm (bw _ _) _⟩
 ·
  have hz : 0 < s.size := by rw [← XC.size_toList]; exact List.length_pos_iff.2 h0
  have h1 : s.toList.isEmpty = false := by simpa using h0
  have hc := cof_byte.calls 70 #[.pointer (some ⟨w.heap.size, 0, none⟩)] e1 (fun x => !p x) (some ⟨w.heap.size + 1, 0, none⟩) (grownCap (w.alloc (.cells #[.func (.func g) #[] #[]] 71)) s.size 0 5) (bytesOf s) (Lib.bytesWorld (w.alloc (.cells #[.func (.func g) #[] #[]] 71)) 5 s)
   (XC.reads_bytes _ _ _ hs _ (by simp))
   (fun W x hb hx => every1.calls g eg w.heap.size x (p x) W (by
    rw [hb.cell (p := ⟨w.heap.size, 0, none⟩) (XC.size_bytes _ _ _ _), Lib.bytesWorld_old _ _ _ _ (by simp), XC.cell_box]) (HP.out W x hx))
  rw [bytesOf_length] at hc
  have HC := bu hc
  clear hc
  go_enter Tryd.func53, Tryd.ntmps53
  go_wp2_with (go_at_call 69; refine HC.out.mono ?_; rintro e w' ⟨rfl, hb⟩)
  go_ret
  exact ⟨by rw [XC.any_not]; simp [hz], XC.below_chain (bytes_below (bm (bw _ _) _) (by simp) _ _) hb⟩
theorem octets_Name_1_some (x : Int) (h0 : 0 ≤ x) (h1 : x ≤ 255) : octets_Name_1.f x = some (XC.nameC x) := by
 have h : ∀ n : Fin 256, octets_Name_1.f ((n.val : Nat) : Int) = some (XC.nameC ((n.val : Nat) : Int)) := by decide +kernel
 have := h ⟨x.toNat, by omega⟩
 rwa [show (((⟨x.toNat, by omega⟩ : Fin 256).val : Nat) : Int) = x from Int.toNat_of_nonneg h0] at this
theorem octets_digit_some (x : Int) : octets_digit.f x = some (XC.digC x) := by
 unfold octets_digit.f XC.digC
 split
 ·
  rename_i h; simp [h]
 ·
  rename_i h; simp [h]
def octets_Name.f (a0 : ByteArray) : Option Bool := if a0.size ≤ 9223372036854775807 then some (XC.nameB (bytesOf a0)) else none
set_option maxHeartbeats 2000000 in
theorem octets_Name.calls (a0 : ByteArray) (r : Bool) (w : World) (h : octets_Name.f a0 = some r) :
  Calls Tryd.prog 34 #[.string a0] w fun e w' => e = .returned (.bool r) ∧ Below w.heap.size w w' := by
 unfold octets_Name.f at h
 by_cases hs : a0.size ≤ 9223372036854775807
 ·
  rw [if_pos hs] at h
  obtain rfl := Option.some.inj h
  clear h
  have e1 : ∀ args w, (callFunc 60 args).run Tryd.prog w = .ok (.enter 60 args) w := XC.enters Tryd.func60 (by kernel_rfl) rfl
  have hv := octets_every.calls 60 e1 XC.nameC a0 hs
  have HV := bu (fun w => hv w (fun W x hx => (octets_Name_1.calls x _ W (octets_Name_1_some x (XC.bytesOf_range hx).1 (XC.bytesOf_range hx).2)).mono fun e W' h' => ⟨h'.1, h'.2.below⟩))
  clear hv
  by_cases h64 : a0.size ≤ 64
  ·
   by_cases hall : (decide (0 < a0.size) && (bytesOf a0).all XC.nameC) = true
   ·
    have HALL := bu hall
    have hpos : 0 < a0.size := by simp at hall; exact hall.1
    have HV2 : Aside0 (∀ w, Calls Tryd.prog 53 #[.string a0, .func (.func 60) #[] #[]] w fun e w' => e = .returned (.bool true) ∧ Below w.heap.size w w') := ⟨fun w => by have := HV.out w; rwa [hall] at this⟩
    have hd := octets_digit_some (bt a0 0)
    have HD := bu hd
    clear hd hall HV
    have hb0 : ((a0[0]'hpos).toNat : Int) = bt a0 0 := bt_at a0 0 hpos
    go_enter Tryd.func34, Tryd.ntmps34
    go_wp2_with (first | (go_at_call 53; refine (HV2.out _).mono ?_; rintro e w' ⟨rfl, hb⟩) | (go_at_call 54; refine (octets_digit.calls (bt a0 0) _ _ HD.out).mono ?_; rintro e w' ⟨rfl, ⟨nd, rfl⟩⟩))
    go_ret
    exact ⟨by rw [XC.nameB_eq a0 h64, HALL.out, Bool.true_and]; rfl, bj hb _⟩
   ·
    have hall' := Bool.eq_false_iff.mpr hall
    have HALL := bu hall'
    have HV2 : Aside0 (∀ w, Calls Tryd.prog 53 #[.string a0, .func (.func 60) #[] #[]] w fun e w' => e = .returned (.bool false) ∧ Below w.heap.size w w') := ⟨fun w => by have := HV.out w; rwa [hall'] at this⟩
    clear hall hall' HV
    go_enter Tryd.func34, Tryd.ntmps34
    go_wp2_with (go_at_call 53; refine (HV2.out _).mono ?_; rintro e w' ⟨rfl, hb⟩)
    go_ret
    exact ⟨by rw [XC.nameB_eq a0 h64, HALL.out, Bool.false_and]; rfl, hb⟩
  ·
   have h64' : ¬ (a0.size : Int) ≤ 64 := by omega
   have HN := bu (XC.nameB_long a0 h64)
   clear HV
   go_enter Tryd.func34, Tryd.ntmps34
   go_wp2
   go_ret
   exact ⟨by rw [HN.out]; rfl, bw _ _⟩
 ·
  rw [if_neg hs] at h
  exact absurd h (by simp)

/-! ### strings_IndexByte: function 66 -/
def strings_IndexByte.f (a0 : ByteArray) (a1 : Int) : Option Int := some (Lib.indexByte a0.data.toList a1.toNat.toUInt8)
theorem strings_IndexByte.calls (a0 : ByteArray) (a1 : Int) (r : Int) (w : World) (h : strings_IndexByte.f a0 a1 = some r) :
  Calls Tryd.prog 66 #[.string a0, .int .u8 a1] w fun e w' => e = .returned (.int .i64 r) ∧ Drawn0 w w' := by
 obtain rfl := Option.some.inj h
 refine (Tryd.strings_IndexByte a0 a1 w).mono ?_
 rintro e w' ⟨rfl, rfl⟩
 exact ⟨rfl, Drawn0.refl _⟩

/-! ### vars_ask: function 44 -/
def vars_ask.l0 : Nat → List ByteArray → Int → Int → Option (Int)
  | 0, _, _, _ => none
  | k + 1, x5, x6, x7 => if x7 < x6 then (if 0 ≤ x7 then (if x7 < (x5.length : Int) then ((strings_IndexByte.f (rdOf ByteArray.empty x5 x7) 0).bind fun t104 => (if t104 ≥ 0 then (some 61) else (if ((rdOf ByteArray.empty x5 x7).size : Int) > 65536 then (some 5) else (vars_ask.l0 k x5 x6 (wrap64 (x7 + 1)))))) else (none)) else (none)) else (some 0)
def vars_ask.f (k : Nat) (l0 : List ByteArray) : Option (Int) := vars_ask.l0 k l0 (l0.length : Int) 0
set_option maxHeartbeats 8000000 in
set_option maxRecDepth 100000 in
theorem vars_ask.calls (k : Nat) (A0 : Option Addr) (c0 : Nat) (l0 : List ByteArray) (r : Int) (w : World) (hr0 : Kd.C Kd.string w A0 l0.length l0) (hc0 : l0.length ≤ c0) (h : vars_ask.f k l0 = some r) :
  Calls Tryd.prog 44 #[.slice A0 l0.length c0] w fun e w' => e = .returned (.int .i64 r) ∧ Drawn0 w w' := by
 have HR0 := bu hr0
 have HC0 := bu hc0
 clear hr0 hc0
 have H : (vars_ask.l0 k l0 (l0.length : Int) 0) = some r := h
 clear h
 have H' := bu H
 clear H
 go_enter Tryd.func44, Tryd.ntmps44
 go_wp2
 go_loopg [7] k (fun kq v7 w' => ∃ (bz : Int), v7 = .int .i64 bz ∧ Aside0 (vars_ask.l0 kq l0 (l0.length : Int) bz = some r) ∧ Aside0 (kq ≤ k) ∧ Drawn0 w w')
 case atStart => exact ⟨(0), (by first | rfl | (simp; done) | (simp [*]; done)), H', ⟨Nat.le_refl _⟩, by repeat (first | exact Drawn0.refl _ | apply Drawn0.step)⟩
 case round =>
  clear H'
  obtain ⟨bz, rfl, HA, HK1, ⟨m1, rfl⟩⟩ := hrel
  cases gk with
  | zero => exact absurd HA.out (by simp [vars_ask.l0])
  | succ k1 =>
   have H := HA.out
   clear HA
   simp only [vars_ask.l0] at H
   by_cases c2 : bz < (l0.length : Int)
   ·
    rw [if_pos c2] at H
    have c2b0 : decide (bz < (l0.length : Int)) = true := decide_eq_true c2
    clear c2
    by_cases c3 : 0 ≤ bz
    ·
     rw [if_pos c3] at H
     have c3b0 : decide (0 ≤ bz) = true := decide_eq_true c3
     clear c3
     by_cases c4 : bz < (l0.length : Int)
     ·
      rw [if_pos c4] at H
      have c4b0 : decide (bz < (l0.length : Int)) = true := decide_eq_true c4
      clear c4
      replace H := Option.bind_eq_some_iff.mp H
      obtain ⟨t104, A50, H⟩ := H
      replace H : (if t104 ≥ 0 then (some 61) else (if ((rdOf ByteArray.empty l0 bz).size : Int) > 65536 then (some 5) else (vars_ask.l0 k1 l0 (l0.length : Int) (wrap64 (bz + 1))))) = some r := H
      have A5 := bu A50
      clear A50
      by_cases c6 : t104 ≥ 0
      ·
       rw [if_pos c6] at H
       have c6b0 : decide (0 ≤ t104) = true := decide_eq_true c6
       clear c6
       obtain rfl := Option.some.inj H
       have p103 : 0 ≤ (bz : Int) := of_decide_eq_true (by first | (with_reducible assumption) | assumption)
       have q103 : bz < (l0.length : Int) := of_decide_eq_true (by first | (with_reducible assumption) | assumption)
       obtain ⟨ad103, e103, hx103_0⟩ := Kd.at_string HR0.out bz p103 q103
       cases e103
       replace p103 := eq_true p103
       replace q103 := eq_true q103
       go_wp2_with (first | ((with_reducible refine bv (f := 66) rfl ?_); refine goesL_ (some 13) rfl rfl Tryd.func66 (by kernel_rfl) rfl #[.string (rdOf ByteArray.empty l0 bz), .int .u8 0] rfl (by (try simp only [List.map_toArray, List.map_cons, List.map_nil]); first | done | rfl | (simp only [List.length_drop, List.length_take]; rfl)) ?_; (with_reducible refine (strings_IndexByte.calls (rdOf ByteArray.empty l0 bz) 0 t104 _ A5.out).mono ?_); rintro e w' ⟨rfl, ⟨nd, rfl⟩⟩; refine ⟨_, rfl, ?_⟩))
       go_ret
       exact ⟨by first | rfl | (simp; done) | (simp [*]; done), by repeat (first | exact Drawn0.refl _ | apply Drawn0.step)⟩
      ·
       rw [if_neg c6] at H
       have c6b0 : decide (0 ≤ t104) = false := decide_eq_false c6
       clear c6
       by_cases c7 : ((rdOf ByteArray.empty l0 bz).size : Int) > 65536
       ·
        rw [if_pos c7] at H
        have c7b0 : decide (65536 < ((rdOf ByteArray.empty l0 bz).size : Int)) = true := decide_eq_true c7
        have c7b1 : decide (65536 < (rdOf ByteArray.empty l0 bz).size) = true := decide_eq_true (by omega)
        clear c7
        obtain rfl := Option.some.inj H
        have p103 : 0 ≤ (bz : Int) := of_decide_eq_true (by first | (with_reducible assumption) | assumption)
        have q103 : bz < (l0.length : Int) := of_decide_eq_true (by first | (with_reducible assumption) | assumption)
        obtain ⟨ad103, e103, hx103_0⟩ := Kd.at_string HR0.out bz p103 q103
        cases e103
        replace p103 := eq_true p103
        replace q103 := eq_true q103
        go_wp2_with (first | ((with_reducible refine bv (f := 66) rfl ?_); refine goesL_ (some 13) rfl rfl Tryd.func66 (by kernel_rfl) rfl #[.string (rdOf ByteArray.empty l0 bz), .int .u8 0] rfl (by (try simp only [List.map_toArray, List.map_cons, List.map_nil]); first | done | rfl | (simp only [List.length_drop, List.length_take]; rfl)) ?_; (with_reducible refine (strings_IndexByte.calls (rdOf ByteArray.empty l0 bz) 0 t104 _ A5.out).mono ?_); rintro e w' ⟨rfl, ⟨nd, rfl⟩⟩; refine ⟨_, rfl, ?_⟩))
        go_ret
        exact ⟨by first | rfl | (simp; done) | (simp [*]; done), by repeat (first | exact Drawn0.refl _ | apply Drawn0.step)⟩
       ·
        rw [if_neg c7] at H
        have c7b0 : decide (65536 < ((rdOf ByteArray.empty l0 bz).size : Int)) = false := decide_eq_false c7
        have c7b1 : decide (65536 < (rdOf ByteArray.empty l0 bz).size) = false := decide_eq_false (by omega)
        clear c7
        have H' := bu H
        clear H
        have p103 : 0 ≤ (bz : Int) := of_decide_eq_true (by first | (with_reducible assumption) | assumption)
        have q103 : bz < (l0.length : Int) := of_decide_eq_true (by first | (with_reducible assumption) | assumption)
        obtain ⟨ad103, e103, hx103_0⟩ := Kd.at_string HR0.out bz p103 q103
        cases e103
        replace p103 := eq_true p103
        replace q103 := eq_true q103
        go_wp2_with (first | ((with_reducible refine bv (f := 66) rfl ?_); refine goesL_ (some 13) rfl rfl Tryd.func66 (by kernel_rfl) rfl #[.string (rdOf ByteArray.empty l0 bz), .int .u8 0] rfl (by (try simp only [List.map_toArray, List.map_cons, List.map_nil]); first | done | rfl | (simp only [List.length_drop, List.length_take]; rfl)) ?_; (with_reducible refine (strings_IndexByte.calls (rdOf ByteArray.empty l0 bz) 0 t104 _ A5.out).mono ?_); rintro e w' ⟨rfl, ⟨nd, rfl⟩⟩; refine ⟨_, rfl, ?_⟩))
        go_roundg k1
        case measure => have := HK1.out; omega
        case rel => exact ⟨(wrap64 (bz + 1)), (by first | rfl | (simp; done) | (simp [*]; done)), H', ⟨by have := HK1.out; omega⟩, by repeat (first | exact Drawn0.refl _ | apply Drawn0.step)⟩
     ·
      rw [if_neg c4] at H
      exact absurd H (by simp)
    ·
     rw [if_neg c3] at H
     exact absurd H (by simp)
   ·
    rw [if_neg c2] at H
    have c2b0 : decide (bz < (l0.length : Int)) = false := decide_eq_false c2
    clear c2
    obtain rfl := Option.some.inj H
    go_wp2
    go_ret
    exact ⟨by first | rfl | (simp; done) | (simp [*]; done), by repeat (first | exact Drawn0.refl _ | apply Drawn0.step)⟩

/-! ### slices_Clone_string_string: function 22 -/
def slices_Clone_string_string.f (l0 : List ByteArray) : Option (List ByteArray) := if ([] : List ByteArray).length + l0.length < 8796093022208 then (some (([] : List ByteArray) ++ l0)) else (none)
set_option maxHeartbeats 8000000 in
set_option maxRecDepth 100000 in
theorem slices_Clone_string_string.calls (A0 : Option Addr) (c0 : Nat) (l0 : List ByteArray) (r : List ByteArray) (w : World) (hr0 : Kd.C Kd.string w A0 l0.length l0) (hc0 : l0.length ≤ c0) (h : slices_Clone_string_string.f l0 = some r) :
  Calls Tryd.prog 22 #[.slice A0 l0.length c0] w fun e w' => ∃ v0_ : Value, e = .returned (v0_) ∧ Kd.R Kd.string 9 w' w.heap.size (fun _ => True) v0_ r ∧ Below w.heap.size w w' := by
 have n0 := fun w => Lib.run_eql_slice_nil (P := Tryd.prog) w 23 9 none 0 c0 0 0 Tryd.underlying23
 have n1 := fun w ad => Lib.run_eql_slice_nil (P := Tryd.prog) w 23 9 (some ad) l0.length c0 0 0 Tryd.underlying23
 have HR0 := bu hr0
 unfold slices_Clone_string_string.f at h
 by_cases c2 : ([] : List ByteArray).length + l0.length < 8796093022208
 ·
  rw [if_pos c2] at h
  obtain rfl := Option.some.inj h
  clear h
  have LM := bu c2
  clear c2 hr0 hc0
  cases A0 with
  | none =>
   have hz : l0 = [] := by
    rcases Nat.eq_zero_or_pos l0.length with h0 | h0
    ·
     exact List.length_eq_zero_iff.1 h0
    ·
     obtain ⟨ad, he, _⟩ := HR0.out.2.2 h0
     cases he
   subst hz
   go_enter Tryd.func22, Tryd.ntmps22
   go_wp2
   go_ret
   exact ⟨_, rfl, Kd.R_nil _ _ _ _ (fun _ => True), bw _ _⟩
  | some ad =>
   have HE := bu (XC.R_empty Kd.string 9 w w.heap.size (Nat.le_refl _))
   go_enter Tryd.func22, Tryd.ntmps22
   go_wp2_with ((with_reducible refine gate_builtin (b := .append) (xs := #[.tmp 5, .tmp 6]) rfl ?_); at_builtin; refine Kd.R_append_rows Kd.string (w0 := w) w.heap.size rfl (.tmp 5) (.tmp 6) 23 9 (.string ⟨#[]⟩) 16 rfl Tryd.underlying23 info9 rfl (by decide) (by omega) (.slice (some ⟨w.heap.size, 0, none⟩) 0 0) ([] : List ByteArray) l0 _ _ _ (fun _ => True) (fun _ => False) rfl rfl ?aO ?aR (fun _ _ h => h) (fun _ h => h.elim) (fun _ _ => trivial) ?aB ?aS ?aL ?_; (case aO => exact HE.out); (case aR => exact bp HR0.out _); (case aB => exact bm (bw _ _) _); (case aS => simp); (case aL => have := LM.out; simp only [List.length_nil, Nat.zero_add] at this ⊢; omega); intro v1 w1 ho hb hg hat; have HO := bu ho; have HB := bu hb; clear ho hb hg hat)
   go_ret
   exact ⟨_, rfl, HO.out, HB.out⟩
 ·
  rw [if_neg c2] at h
  exact absurd h (by simp)

/-! ### vars_own: function 21 -/
set_option maxHeartbeats 2000000 in
theorem clone_var.calls (A0 : Option Addr) (c0 : Nat) (l0 : List S53) (w : World) (hr0 : Kd.C k53 w A0 l0.length l0) (hb : l0.length * 64 ≤ 140737488355328) :
  Calls Tryd.prog 47 #[.slice A0 l0.length c0] w fun e w' => ∃ v css, e = .returned v ∧ Below w.heap.size w w' ∧ (Kd.raw 4).R 53 w' w.heap.size (fun _ => True) v css ∧ css.length = l0.length ∧ ∀ (j : Nat) (x : S53), l0[j]? = some x → ∃ c, css[j]? = some c ∧ k53.K w x c := by
 have n0 := fun w => Lib.run_eql_slice_nil (P := Tryd.prog) w 22 53 none 0 c0 0 0 Tryd.underlying22
 have n1 := fun w ad => Lib.run_eql_slice_nil (P := Tryd.prog) w 22 53 (some ad) l0.length c0 0 0 Tryd.underlying22
 obtain ⟨css, hcs, hk⟩ := XC.C_raw hr0
 have hcl : css.length = l0.length := hcs.1
 have HCS : Aside0 ((Kd.raw 4).C w A0 l0.length css) := ⟨hcs⟩
 have HCL := bu hcl
 have HK := bu hk
 have HR0 := bu hr0
 have HLB := bu hb
 clear hcs hcl hk hr0 hb
 cases A0 with
 | none =>
  have hz : l0 = [] := by
   rcases Nat.eq_zero_or_pos l0.length with h0 | h0
   ·
    exact List.length_eq_zero_iff.1 h0
   ·
    obtain ⟨ad, he, _⟩ := HR0.out.2.2 h0
    cases he
  subst hz
  go_enter Tryd.func47, Tryd.ntmps47
  go_wp2
  go_ret
  exact ⟨_, [], rfl, bw _ _, Kd.R_nil _ _ _ _ (fun _ => True), rfl, fun j x hj => by simp at hj⟩
 | some ad =>
  have HE := bu (XC.R_empty (Kd.raw 4) 53 w w.heap.size (Nat.le_refl _))
  go_enter Tryd.func47, Tryd.ntmps47
  go_wp2_with ((with_reducible refine gate_builtin (b := .append) (xs := #[.tmp 5, .tmp 6]) rfl ?_); at_builtin; refine Kd.R_append_rows (Kd.raw 4) (w0 := w) w.heap.size rfl (.tmp 5) (.tmp 6) 22 53 (.agg #[(.string ⟨#[]⟩), (.string ⟨#[]⟩), (.bool false), (.slice none 0 0)]) 64 rfl Tryd.underlying22 info53 rfl (by decide) (by omega) (.slice (some ⟨w.heap.size, 0, none⟩) 0 0) ([] : List (List Value)) css _ _ _ (fun _ => True) (fun _ => False) rfl rfl ?aO ?aR (fun _ _ h => h) (fun _ h => h.elim) (fun _ _ => trivial) ?aB ?aS ?aL ?_; (case aO => exact HE.out); (case aR => exact bp HCS.out _); (case aB => exact bm (bw _ _) _); (case aS => simp); (case aL => have := HLB.out; simp only [List.length_nil, Nat.zero_add] at this ⊢; omega); intro v1 w1 ho hb hg hat; have HO := bu ho; have HB := bu hb; clear ho hb hg hat)
  go_ret
  exact ⟨_, css, rfl, HB.out, HO.out, HCL.out, HK.out⟩
def OwnInv (w : World) (g cap : Nat) (l : List S53) (kk : Nat) (W : World) : Prop :=
  Below w.heap.size w W ∧ w.heap.size ≤ g ∧ ∃ (cur : Array Value) (f : Nat → Nat) (sv : Nat → Value), W.heap[g]? = some (.cells cur 53 (0, 0)) ∧ cur.size = cap * 4 ∧
    (∀ (j : Nat) (x : S53), l[j]? = some x → cur[j * 4]? = some (.string x.f0) ∧ cur[j * 4 + 1]? = some (.string x.f1) ∧ cur[j * 4 + 2]? = some (.bool x.f2) ∧ cur[j * 4 + 3]? = some (sv j)) ∧
    (∀ (j : Nat) (x : S53), j < kk → l[j]? = some x → Kd.string.R 9 W w.heap.size (fun k => k ≠ g ∧ f k = j) (sv j) x.f3) ∧
    (∀ (j : Nat) (x : S53), kk ≤ j → l[j]? = some x → ∃ A c, sv j = .slice A x.f3.length c ∧ x.f3.length ≤ c ∧ Kd.string.C w A x.f3.length x.f3)
theorem own_start {w W : World} {v : Value} {css : List (List Value)} {l : List S53} (hb : Below w.heap.size w W) (h : (Kd.raw 4).R 53 W w.heap.size (fun _ => True) v css) (hl : css.length = l.length)
  (hk : ∀ (j : Nat) (x : S53), l[j]? = some x → ∃ c, css[j]? = some c ∧ k53.K w x c) (h0 : 0 < l.length) :
  ∃ g cap, v = .slice (some ⟨g, 0, none⟩) l.length cap ∧ l.length ≤ cap ∧ cap ≤ maxLen ∧ OwnInv w g cap l 0 W := by
 obtain ⟨_, inner, ho, hr⟩ := h
 rcases ho.2 with ⟨_, hn⟩ | ⟨g, cap, cur, hv, hg, hh, hle, hm, hs, hi⟩
 ·
  omega
 ·
  refine ⟨g, cap, by rw [hv, hl], by omega, hm, hb, hg, cur, fun _ => 0, fun j => cur.getD (j * 4 + 3) undef, hh, hs, ?_, fun j x hj => absurd hj (Nat.not_lt_zero _), ?_⟩
  ·
   intro j x hj
   obtain ⟨c, hc, hK⟩ := hk j x hj
   obtain ⟨A3, c3, rfl, _, _⟩ := k53_open hK
   have hq := hr.2 j _ hc
   have at_ : ∀ i u, i < 4 → [Value.string x.f0, .string x.f1, .bool x.f2, .slice A3 x.f3.length c3][i]? = some u → cur[j * 4 + i]? = some u := fun i u hi4 hu => XC.cur_at hi hq.1 hi4 hu
   have h3 := at_ 3 _ (by omega) rfl
   exact ⟨at_ 0 _ (by omega) rfl, at_ 1 _ (by omega) rfl, at_ 2 _ (by omega) rfl, by show cur[j * 4 + 3]? = some (cur.getD (j * 4 + 3) undef); rw [Array.getD_eq_getD_getElem?, h3]; rfl⟩
  ·
   intro j x _ hj
   obtain ⟨c, hc, hK⟩ := hk j x hj
   obtain ⟨A3, c3, rfl, hl3, hC3⟩ := k53_open hK
   have hq := hr.2 j _ hc
   have h3 : cur[j * 4 + 3]? = some (.slice A3 x.f3.length c3) := XC.cur_at hi hq.1 (by omega) rfl
   exact ⟨A3, c3, by show cur.getD (j * 4 + 3) undef = _; rw [Array.getD_eq_getD_getElem?, h3]; rfl, hl3, hC3⟩
theorem own_step {w W W2 : World} {g cap kk : Nat} {l : List S53} {x : S53} {v : Value} (h : OwnInv w g cap l kk W) (hx : l[kk]? = some x) {b : Nat} (hb : Below W.heap.size W W2) (hbb : W.heap.size ≤ b)
  (hv : Kd.string.R 9 W2 b (fun _ => True) v x.f3) : OwnInv w g cap l (kk + 1) (W2.setCell ⟨g, kk * 4 + 3, none⟩ v) := by
 obtain ⟨hwb, hgb, cur, f, sv, hh, hcs, hcells, hdone, htodo⟩ := h
 have dg : g < W.heap.size := (Array.getElem?_eq_some_iff.1 hh).1
 have hh2 : W2.heap[g]? = some (.cells cur 53 (0, 0)) := (hb.block g dg).trans hh
 have hh3 : (W2.setCell ⟨g, kk * 4 + 3, none⟩ v).heap[g]? = some (.cells (cur.setIfInBounds (kk * 4 + 3) v) 53 (0, 0)) := XC.setCell_heap hh2 _ _
 have oth : ∀ k, k ≠ g → (W2.setCell ⟨g, kk * 4 + 3, none⟩ v).heap[k]? = W2.heap[k]? := fun k hk => Below.heap_setCell W2 ⟨g, kk * 4 + 3, none⟩ v k hk
 have hbelow : Below w.heap.size w (W2.setCell ⟨g, kk * 4 + 3, none⟩ v) := (XC.below_chain hwb hb).setCell hgb v
 refine ⟨hbelow, hgb, cur.setIfInBounds (kk * 4 + 3) v, fun k => if W.heap.size ≤ k then kk else f k, fun j => if j = kk then v else sv j, hh3, by simpa using hcs, ?_, ?_, ?_⟩
 ·
  intro j y hj
  obtain ⟨q0, q1, q2, q3⟩ := hcells j y hj
  refine ⟨?_, ?_, ?_, ?_⟩
  ·
   rw [Array.getElem?_setIfInBounds_ne (by omega)]; exact q0
  ·
   rw [Array.getElem?_setIfInBounds_ne (by omega)]; exact q1
  ·
   rw [Array.getElem?_setIfInBounds_ne (by omega)]; exact q2
  ·
   by_cases e : j = kk
   ·
    subst e
    have hlt := (Array.getElem?_eq_some_iff.1 q3).1
    simp [Array.getElem?_setIfInBounds, hlt]
   ·
    rw [Array.getElem?_setIfInBounds_ne (by omega)]; simpa [e] using q3
 ·
  intro j y hjk hj
  by_cases e : j = kk
  ·
   subst e
   obtain rfl : x = y := by rw [hx] at hj; exact Option.some.inj hj
   have h1 := Kd.R_bound hv
   have hWw : w.heap.size ≤ W.heap.size := hwb.size
   have h2 := Kd.R_lower h1 (show w.heap.size ≤ b by omega)
   have h3 : Kd.string.R 9 W2 w.heap.size (fun k => k ≠ g ∧ (if W.heap.size ≤ k then j else f k) = j) v x.f3 := Kd.R_mono h2 (fun k hk => ⟨by have := hk.2.1; omega, by rw [if_pos (by have := hk.2.1; omega)]⟩)
   have h4 := Kd.R_step h3 (w1 := W2.setCell ⟨g, j * 4 + 3, none⟩ v) (fun k hk _ => oth k hk.1)
   simpa using h4
  ·
   have h1 := Kd.R_bound (hdone j y (by omega) hj)
   have h3 : Kd.string.R 9 W w.heap.size (fun k => k ≠ g ∧ (if W.heap.size ≤ k then kk else f k) = j) (sv j) y.f3 := Kd.R_mono h1 (fun k hk => ⟨hk.1.1, by rw [if_neg (by have := hk.2.2.1; omega)]; exact hk.1.2⟩)
   have h4 := Kd.R_step h3 (w1 := W2.setCell ⟨g, kk * 4 + 3, none⟩ v) (fun k hk hlt => (oth k hk.1).trans (hb.block k hlt))
   simpa [e] using h4
 ·
  intro j y hjk hj
  obtain ⟨A, c, hs, hl, hC⟩ := htodo j y (by omega) hj
  exact ⟨A, c, by simpa [show ¬ j = kk by omega] using hs, hl, hC⟩
theorem own_end {w W : World} {g cap : Nat} {l : List S53} (h : OwnInv w g cap l l.length W) (hl : l.length ≤ cap) (hm : cap ≤ maxLen) : Kd.S k53 53 W w.heap.size (fun _ => True) (.slice (some ⟨g, 0, none⟩) l.length cap) l := by
 obtain ⟨hwb, hgb, cur, f, sv, hh, hcs, hcells, hdone, htodo⟩ := h
 have hcl : cur.toList.length = cap * 4 := by rw [Array.length_toList]; exact hcs
 refine ⟨f, fun _ _ => trivial, cur.toList.take (l.length * 4), ⟨?_, .inr ⟨g, cap, cur, by rw [List.length_zipIdx], hgb, hh, by rw [List.length_zipIdx]; exact hl, hm, hcs, by rw [List.length_zipIdx]; rfl⟩⟩, ?_, ?_⟩
 ·
  rw [List.length_zipIdx, List.length_take, hcl]; show min _ _ = l.length * 4; omega
 ·
  rw [List.length_zipIdx, List.length_take, hcl]; show min _ _ = l.length * 4; omega
 ·
  intro j p hj
  obtain ⟨x, i⟩ := p
  have hjl : j < l.length := by have := (List.getElem?_eq_some_iff.1 hj).1; simpa using this
  have hx : l[j]? = some x ∧ i = j := by
   rw [List.getElem?_zipIdx, List.getElem?_eq_getElem hjl] at hj
   simp at hj
   exact ⟨by rw [List.getElem?_eq_getElem hjl, hj.1], hj.2.symm⟩
  obtain ⟨hx, rfl⟩ := hx
  obtain ⟨q0, q1, q2, q3⟩ := hcells i x hx
  have hc : ((cur.toList.take (l.length * 4)).drop (i * 4)).take 4 = [.string x.f0, .string x.f1, .bool x.f2, sv i] := by
   apply List.ext_getElem?
   intro k
   rcases Nat.lt_or_ge k 4 with hk | hk
   ·
    rw [List.getElem?_take_of_lt hk, List.getElem?_drop, List.getElem?_take_of_lt (by omega)]
    rw [Array.getElem?_toList]
    match k, hk with
    | 0, _ => exact q0
    | 1, _ => exact q1
    | 2, _ => exact q2
    | 3, _ => exact q3
   ·
    rw [List.getElem?_eq_none (by rw [List.length_take]; omega), List.getElem?_eq_none (by simpa using hk)]
  have hd := hdone i x hjl hx
  show k53.M W w.heap.size _ x _
  have hsz : k53.sz = 4 := rfl
  rw [show (Kd.tag f k53).sz = 4 from rfl, hc]
  exact k53_mkM W w.heap.size _ x (Kd.R_mono hd (fun k hk => ⟨⟨trivial, by simp [Value.ownBlock]; exact hk.1⟩, hk.2⟩))
def vars_own.f (l0 : List S53) : Option (List S53) := if l0.length * 64 ≤ 140737488355328 then (if l0.all (fun x => decide (x.f3.length < 8796093022208)) = true then some l0 else none) else none
set_option maxHeartbeats 4000000 in
set_option maxRecDepth 100000 in
theorem vars_own.calls (A0 : Option Addr) (c0 : Nat) (l0 : List S53) (r : List S53) (w : World) (hr0 : Kd.C k53 w A0 l0.length l0) (hc0 : l0.length ≤ c0) (h : vars_own.f l0 = some r) :
  Calls Tryd.prog 21 #[.slice A0 l0.length c0] w fun e w' => ∃ v0_ : Value, e = .returned (v0_) ∧ Kd.N k53 53 w' w.heap.size (fun k_ => (w.heap.size ≤ k_)) v0_ r ∧ Below w.heap.size w w' := by
 unfold vars_own.f at h
 split at h
 ·
  rename_i hsz
  split at h
  ·
   rename_i hall
   obtain rfl := Option.some.inj h
   clear h
   have hbig : l0.length ≤ 9223372036854775807 := hr0.2.1
   have hu := Tryd.underlying53
   have HC := clone_var.calls A0 c0 l0 w hr0 hsz
   have HALL := bu hall
   have HR0 := bu hr0
   clear hall hr0 hsz hc0
   rcases Nat.eq_zero_or_pos l0.length with h0 | h0
   ·
    obtain rfl := List.length_eq_zero_iff.1 h0
    have HC2 : Calls Tryd.prog 47 #[.slice A0 0 c0] w fun e w' => ∃ A c, e = .returned (.slice A 0 c) ∧ Below w.heap.size w w' ∧ Aside0 (Kd.S k53 53 w' w.heap.size (fun _ => True) (.slice A 0 c) []) := HC.mono fun e w' h => by
     obtain ⟨v, css, rfl, hb, hR, hcl, hk⟩ := h
     obtain rfl := List.length_eq_zero_iff.1 (show css.length = 0 from hcl)
     obtain ⟨A, c, rfl⟩ := Kd.R_slice hR
     obtain ⟨h1, inner, ho, hr⟩ := hR
     exact ⟨A, c, rfl, hb, ⟨⟨fun _ => 0, fun _ _ => trivial, inner, ho, by simpa using hr.1, fun j p hj => by simp at hj⟩⟩⟩
    clear HC
    go_enter Tryd.func21, Tryd.ntmps21
    go_wp2_with (go_at_call 47; refine HC2.mono ?_; rintro e w1 ⟨A, c, rfl, hb, HS⟩)
    go_loopg [10] 0 (fun gg s10 wr => s10 = .int .i64 0 ∧ wr = w1)
    case atStart => exact ⟨rfl, rfl⟩
    case round =>
     obtain ⟨rfl, rfl⟩ := hrel
     go_wp2
     go_ret
     exact ⟨_, rfl, XC.N_fresh HS.out, hb⟩
   ·
    have HC2 : Calls Tryd.prog 47 #[.slice A0 l0.length c0] w fun e w' => ∃ g cap, e = .returned (.slice (some ⟨g, 0, none⟩) l0.length cap) ∧ l0.length ≤ cap ∧ cap ≤ maxLen ∧ Aside0 (OwnInv w g cap l0 0 w') := HC.mono fun e w' h => by
     obtain ⟨v, css, rfl, hb, hR, hcl, hk⟩ := h
     obtain ⟨g, cap, rfl, h1, h2, h3⟩ := own_start hb hR hcl hk h0
     exact ⟨g, cap, rfl, h1, h2, ⟨h3⟩⟩
    clear HC
    go_enter Tryd.func21, Tryd.ntmps21
    go_wp2_with (go_at_call 47; refine HC2.mono ?_; rintro e w1 ⟨g, cap, rfl, hle, hm, HI⟩)
    go_loopg [10] l0.length (fun gg s10 wr => ∃ kk : Nat, kk ≤ l0.length ∧ l0.length - kk ≤ gg ∧ s10 = .int .i64 kk ∧ Aside0 (OwnInv w g cap l0 kk wr))
    case atStart => exact ⟨0, Nat.zero_le _, by omega, rfl, HI⟩
    case round =>
     obtain ⟨kk, hkk, hg, rfl, HV⟩ := hrel
     by_cases hlt : kk < l0.length
     ·
      have hltz : (kk : Int) < (l0.length : Int) := by omega
      obtain ⟨hwb, hgb, cur, f, sv, hh, hcs, hcells, hdone, htodo⟩ := HV.out
      obtain ⟨q0, q1, q2, q3⟩ := hcells kk _ (List.getElem?_eq_getElem hlt)
      obtain ⟨A3, c3, hsv, hl3, hC3⟩ := htodo kk _ (Nat.le_refl _) (List.getElem?_eq_getElem hlt)
      have hxl : (l0[kk]'hlt).f3.length < 8796093022208 := by
       have := HALL.out
       rw [List.all_eq_true] at this
       simpa using this _ (List.getElem_mem hlt)
      have hx : l0[kk]? = some (l0[kk]'hlt) := List.getElem?_eq_getElem hlt
      generalize l0[kk]'hlt = x at q0 q1 q2 q3 hsv hl3 hC3 hxl hx
      rw [hsv] at q3
      have d0 : wr.cell? ⟨g, kk * 4, none⟩ = some (.string x.f0) := XC.cell_of hh q0
      have d1 : wr.cell? ⟨g, kk * 4 + 1, none⟩ = some (.string x.f1) := XC.cell_of hh q1
      have d2 : wr.cell? ⟨g, kk * 4 + 2, none⟩ = some (.bool x.f2) := XC.cell_of hh q2
      have d3 : wr.cell? ⟨g, kk * 4 + 3, none⟩ = some (.slice A3 x.f3.length c3) := XC.cell_of hh q3
      have dg : g < wr.heap.size := (Array.getElem?_eq_some_iff.1 hh).1
      have dne : g ≠ wr.heap.size := by omega
      have HX := bu hx
      have HF := bu (XC.unfrozen_of hh (kk * 4 + 3))
      have HCL := bu (show slices_Clone_string_string.f x.f3 = some x.f3 by
       unfold slices_Clone_string_string.f
       rw [if_pos (by simpa using hxl)]; simp)
      have HC3 := bu (br hC3 hwb)
      clear hwb hgb hh hcs hcells hdone htodo q0 q1 q2 q3 hsv hC3 hxl hx
      go_wp2_with (go_at_call 22; refine (slices_Clone_string_string.calls A3 c3 x.f3 x.f3 _ (bp HC3.out _) hl3 HCL.out).mono ?_; rintro e w3 ⟨v3, rfl, hv3, hb3⟩; have f3 := XC.kept_cell (XC.below_self hb3) d3; have f4 := XC.kept_free (XC.below_self hb3) dg HF.out; obtain ⟨A9, c9, h9⟩ := Kd.R_slice hv3; subst h9; have HV3 := bu hv3; have HB3 := bu hb3; clear hv3 hb3)
      go_roundg (l0.length - (kk + 1))
      case measure => omega
      case rel => exact ⟨kk + 1, by omega, by omega, by go_num, ⟨own_step HV.out HX.out (XC.below_self HB3.out) (by simp) HV3.out⟩⟩
     ·
      have hltz : ¬ (kk : Int) < (l0.length : Int) := by omega
      have HE : Aside0 (kk = l0.length) := ⟨by omega⟩
      go_wp2
      go_ret
      exact ⟨_, rfl, XC.N_fresh (own_end (by rw [← HE.out]; exact HV.out) hle hm), HV.out.1⟩
  ·
   exact absurd h (by simp)
 ·
  exact absurd h (by simp)

/-! ### vars_Store_find: function 33 -/
set_option maxHeartbeats 4000000 in
set_option maxRecDepth 100000 in
theorem ixf_var.calls (g : Nat) (caps : Array Value) (eg : ∀ args w, (callFunc g args).run Tryd.prog w = .ok (.enter g args) w) (p : S53 → Bool) (A : Option Addr) (c : Nat) (l : List S53) (w : World) (hr : Kd.C k53 w A l.length l)
  (hp : ∀ (W : World) (x : S53) (A3 : Option Addr) (c3 : Nat), Below w.heap.size w W → x ∈ l → Calls Tryd.prog g (#[.agg #[.string x.f0, .string x.f1, .bool x.f2, .slice A3 x.f3.length c3]] ++ caps) W fun e W' => e = .returned (.bool (p x)) ∧ Below W.heap.size W W') :
  Calls Tryd.prog 58 #[.slice A l.length c, .func (.func g) #[] caps] w fun e w' => e = .returned (.int .i64 (XC.idxI p l)) ∧ Below w.heap.size w w' := by
 have hu := Tryd.underlying53
 have hbig : l.length ≤ 9223372036854775807 := hr.2.1
 have HR := bu hr
 have HP := bu hp
 clear hr hp
 go_enter Tryd.func58, Tryd.ntmps58
 go_wp2
 go_loopg [5, 8] l.length (fun gg _ s8 wr => ∃ kk : Nat, kk ≤ l.length ∧ l.length - kk ≤ gg ∧ s8 = .int .i64 kk ∧ Aside0 (Below w.heap.size w wr) ∧ Aside0 (∀ j, j < kk → p (l.getD j z53) = false))
 case atStart => exact ⟨0, Nat.zero_le _, by omega, rfl, ⟨bw _ _⟩, ⟨fun j hj => absurd hj (Nat.not_lt_zero _)⟩⟩
 case round =>
  obtain ⟨kk, hkk, hg, rfl, HB, HA⟩ := hrel
  by_cases hlt : kk < l.length
  ·
   have hltz : (kk : Int) < (l.length : Int) := by omega
   obtain ⟨ad, A3, c3, rfl, h0, h1, h2, h3, _, _⟩ := at_T53 (br HR.out HB.out) kk (by omega) (by omega)
   have ex : rd_T53 l kk = l.getD kk z53 := by simp [rd_T53]
   rw [ex] at h0 h1 h2 h3
   simp only [Int.toNat_natCast] at h0 h1 h2 h3
   have hcall := HP.out wr (l.getD kk z53) A3 c3 HB.out (by rw [XC.getD_at l z53 kk hlt]; exact List.getElem_mem hlt)
   generalize hx : l.getD kk z53 = x at h0 h1 h2 h3 hcall
   have HX := bu hx
   clear hx ex
   cases hq : p x with
   | true =>
    rw [hq] at hcall
    have HQ := bu hq
    clear hq
    go_wp2_with (go_at_fn g; refine hcall.mono ?_; rintro e w' ⟨rfl, hb'⟩)
    go_ret
    exact ⟨by rw [XC.idxI_hit p l z53 kk hlt (by rw [HX.out]; exact HQ.out) HA.out]; rfl, XC.below_chain HB.out hb'⟩
   | false =>
    rw [hq] at hcall
    have HQ := bu hq
    clear hq
    go_wp2_with (go_at_fn g; refine hcall.mono ?_; rintro e w' ⟨rfl, hb'⟩)
    go_roundg (l.length - (kk + 1))
    case measure => omega
    case rel =>
     refine ⟨kk + 1, by omega, by omega, by go_num, ⟨XC.below_chain HB.out hb'⟩, ⟨fun j hj => ?_⟩⟩
     by_cases e : j = kk
     ·
      subst e; rw [HX.out]; exact HQ.out
     ·
      exact HA.out j (by omega)
  ·
   have hltz : ¬ (kk : Int) < (l.length : Int) := by omega
   have HE : Aside0 (kk = l.length) := ⟨by omega⟩
   go_wp2
   go_ret
   exact ⟨by rw [XC.idxI_miss p l z53 (by rw [← HE.out]; exact HA.out)]; rfl, HB.out⟩
set_option maxHeartbeats 1000000 in
theorem find1.calls (b : Nat) (x : S53) (A3 : Option Addr) (c3 : Nat) (nm : ByteArray) (W : World) (hc : W.cell? ⟨b, 0, none⟩ = some (.string nm)) :
  Calls Tryd.prog 59 #[.agg #[.string x.f0, .string x.f1, .bool x.f2, .slice A3 x.f3.length c3], .pointer (some ⟨b, 0, none⟩)] W fun e W' => e = .returned (.bool (x.f0.toList == nm.toList)) ∧ Below W.heap.size W W' := by
 have hu := Tryd.underlying53
 have hb := World.block_lt_of_cell? W _ hc
 have hlt : b ≠ W.heap.size := by simp at hb; omega
 go_enter Tryd.func59, Tryd.ntmps59
 go_wp2
 go_ret
 exact ⟨rfl, bm (bw _ _) _⟩
def vars_Store_find.f (l0_0 : List S53) (l0_1 : List ByteArray) (a0_2 : Int) (a1 : ByteArray) : Option Int := some (XC.idxI (fun v => v.f0.toList == a1.toList) l0_0)
set_option maxHeartbeats 1000000 in
theorem vars_Store_find.calls (A0_0 : Option Addr) (c0_0 : Nat) (l0_0 : List (S53)) (A0_1 : Option Addr) (c0_1 : Nat) (l0_1 : List ByteArray) (a0_2 : Int) (a1 : ByteArray) (r : Int) (w : World) (hr0_0 : Kd.C k53 w A0_0 l0_0.length l0_0) (hc0_0 : l0_0.length ≤ c0_0) (hr0_1 : Kd.C Kd.string w A0_1 l0_1.length l0_1) (hc0_1 : l0_1.length ≤ c0_1) (h : vars_Store_find.f l0_0 l0_1 a0_2 a1 = some r) :
  Calls Tryd.prog 33 #[.agg #[.slice A0_0 l0_0.length c0_0, .slice A0_1 l0_1.length c0_1, .int .i64 a0_2], .string a1] w fun e w' => e = .returned (.int .i64 r) ∧ Below w.heap.size w w' := by
 obtain rfl := Option.some.inj h
 clear h
 have hu := Tryd.underlying27
 have e1 : ∀ args w, (callFunc 59 args).run Tryd.prog w = .ok (.enter 59 args) w := XC.enters Tryd.func59 (by kernel_rfl) rfl
 have hv := ixf_var.calls 59 #[.pointer (some ⟨w.heap.size + 1, 0, none⟩)] e1 (fun v => v.f0.toList == a1.toList) A0_0 c0_0 l0_0 ((w.alloc (.cells #[.slice A0_0 l0_0.length c0_0, .slice A0_1 l0_1.length c0_1, .int .i64 a0_2] 27)).alloc (.cells #[.string a1] 9)) (bp (bp hr0_0 _) _)
  (fun W x A3 c3 hb hx => find1.calls (w.heap.size + 1) x A3 c3 a1 W (by
   rw [hb.cell (p := ⟨w.heap.size + 1, 0, none⟩) (by simp)]
   have := XC.cell_box (w.alloc (.cells #[.slice A0_0 l0_0.length c0_0, .slice A0_1 l0_1.length c0_1, .int .i64 a0_2] 27)) (.string a1) 9
   rw [show (w.alloc (.cells #[.slice A0_0 l0_0.length c0_0, .slice A0_1 l0_1.length c0_1, .int .i64 a0_2] 27)).heap.size = w.heap.size + 1 by simp] at this
   exact this))
 have HV := bu hv
 clear hv hr0_0 hc0_0 hr0_1 hc0_1
 go_enter Tryd.func33, Tryd.ntmps33
 go_wp2_with (go_at_call 58; refine HV.out.mono ?_; rintro e w' ⟨rfl, hb⟩)
 go_ret
 exact ⟨rfl, XC.below_chain (bm (bm (bw _ _) _) _) hb⟩

end Go.Proofs.YtpljochiegallaaDoor.XVB
