import Derived.Test.YtpljochiegallaaDoorXVarsx0
import Derived.Test.YtpljochiegallaaDoorXC
import Derived.Test.YtpljochiegallaaDoorXO
import Derived.Test.YtpljochiegallaaDoorXVarsx1
import Derived.Test.YtpljochiegallaaDoorXVarsx4
import Derived.Test.YtpljochiegallaaDoorXVarsx5
import Derived.Test.YtpljochiegallaaDoorXVarsx6
namespace Go.Proofs.YtpljochiegallaaDoor.XVars
open Go.RowKit Go.Proofs.YtpljochiegallaaDoorW.PrintWords Go.Proofs.YtpljochiegallaaDoorW.PrintLast Go.Proofs.YtpljochiegallaaDoorW.PrintMore
attribute [local go_sem] max2_int min2_int max_two min_two max_three min_three max_four min_four   -- for this text's walks alone
set_option linter.unusedVariables false
set_option linter.unusedSimpArgs false

/-! ### shifts_walk.tpl -/
theorem Of_st (A0 : Option Addr) (c0 : Nat) (l0 : List S53) (A1 : Option Addr) (c1 : Nat) (l1 : List ByteArray) (st : Int) (w : World) (h0 : Kd.C k53 w A0 l0.length l0) (g0 : l0.length ≤ c0) (h1 : Kd.C Kd.string w A1 l1.length l1) (g1 : l1.length ≤ c1) (k : Nat) (h : cowrielaw20_Of.f k l0 l1 st = some (l0, l1, st)) :
    Calls Tryd.prog 8 #[.agg #[.slice A0 l0.length c0, .slice A1 l1.length c1, .int .i64 st]] w fun e w' => ∃ B0 d0 B1 d1, e = .returned (.agg #[.slice B0 l0.length d0, .slice B1 l1.length d1, .int .i64 st]) ∧ Aside0 (l0.length ≤ d0) ∧ Aside0 (Kd.C k53 w' B0 l0.length l0) ∧ Aside0 (l1.length ≤ d1) ∧ Aside0 (Kd.C Kd.string w' B1 l1.length l1) ∧ Below w.heap.size w w' := by
  refine (cowrielaw20_Of.calls k A0 c0 l0 A1 c1 l1 st l0 l1 st w h0 g0 h1 g1 h).mono ?_
  rintro e w' ⟨v0, v1, rfl, hv0, hv1, hb⟩
  obtain ⟨B0, d0, rfl⟩ := Kd.R_slice (Kd.S_R hv0)
  obtain ⟨B1, d1, rfl⟩ := Kd.R_slice hv1
  have q0 := Kd.R_reads' (Kd.S_R hv0)
  have q1 := Kd.R_reads' hv1
  exact ⟨B0, d0, B1, d1, rfl, ⟨q0.2.1⟩, ⟨q0.2.2⟩, ⟨q1.2.1⟩, ⟨q1.2.2⟩, hb⟩
theorem Shift_st (A0 : Option Addr) (c0 : Nat) (l0 : List S53) (A1 : Option Addr) (c1 : Nat) (l1 : List ByteArray) (st n : Int) (r0 : List S53) (r1 : List ByteArray) (r2 : Int) (r3 : Bool) (w : World) (h0 : Kd.C k53 w A0 l0.length l0) (g0 : l0.length ≤ c0) (h1 : Kd.C Kd.string w A1 l1.length l1) (g1 : l1.length ≤ c1) (k : Nat) (h : vars_Shift.f k l0 l1 st n = some (r0, r1, r2, r3)) :
    Calls Tryd.prog 7 #[.agg #[.slice A0 l0.length c0, .slice A1 l1.length c1, .int .i64 st], .int .i64 n] w fun e w' => ∃ B0 d0 B1 d1, e = .returned (.tuple #[.agg #[.slice B0 r0.length d0, .slice B1 r1.length d1, .int .i64 r2], .bool r3]) ∧ Aside0 (r0.length ≤ d0) ∧ Aside0 (Kd.C k53 w' B0 r0.length r0) ∧ Aside0 (r1.length ≤ d1) ∧ Aside0 (Kd.C Kd.string w' B1 r1.length r1) ∧ Below w.heap.size w w' := by
  refine (vars_Shift.calls k A0 c0 l0 A1 c1 l1 st n r0 r1 r2 r3 w h0 g0 h1 g1 h).mono ?_
  rintro e w' ⟨v0, v1, rfl, hv0, hv1, hb⟩
  obtain ⟨B0, d0, rfl⟩ := Kd.N_slice hv0
  obtain ⟨B1, d1, rfl⟩ := Kd.R_slice hv1
  have q0 := Kd.N_reads' hv0
  have q1 := Kd.R_reads' hv1
  exact ⟨B0, d0, B1, d1, rfl, ⟨q0.2.1⟩, ⟨q0.2.2⟩, ⟨q1.2.1⟩, ⟨q1.2.2⟩, hb⟩
set_option maxHeartbeats 8000000 in
set_option maxRecDepth 100000 in
theorem shifts_walk (A0 : Option Addr) (c0 : Nat) (l0 : List S53) (A1 : Option Addr) (c1 : Nat) (l1 : List ByteArray) (st a b : Int) (w : World) (h0 : Kd.C k53 w A0 l0.length l0) (g0 : l0.length ≤ c0) (h1 : Kd.C Kd.string w A1 l1.length l1) (g1 : l1.length ≤ c1) (k : Nat)
    (ha : cowrielaw20_alive.f k = some true) (ho : cowrielaw20_Of.f k l0 l1 st = some (l0, l1, st)) (na nb : Nat)
    (ea : (wrap64 (a.tmod 9 + 9)).tmod 9 = (na : Int)) (eb : (wrap64 (b.tmod 9 + 9)).tmod 9 = (nb : Int)) (ba : na < 9) (bb : nb < 9)
    (p0 q0 s0 : List S53) (p1 q1 s1 : List ByteArray) (p2 q2 s2 : Int) (p3 q3 s3 : Bool)
    (S1 : vars_Shift.f k l0 l1 st na = some (p0, p1, p2, p3)) (S2 : vars_Shift.f k p0 p1 p2 nb = some (q0, q1, q2, q3)) (S3 : vars_Shift.f k l0 l1 st ((na : Int) + nb) = some (s0, s1, s2, s3))
    (T : cowrieplain_SameTexts.f k q1 s1 = some true) (V : cowrieplain_SameVars.f k q0 s0 = some true) (C : (p3 = false ∧ s3 = false ∧ l1.length < na) ∨ (p3 = true ∧ q3 = true ∧ s3 = true) ∨ (p3 = true ∧ q3 = false ∧ s3 = false)) :
    Calls Tryd.prog 3 #[.agg #[.slice A0 l0.length c0, .slice A1 l1.length c1, .int .i64 st], .int .i64 a, .int .i64 b] w fun e w' => e = .returned (.bool true) ∧ Below w.heap.size w w' := by
  have hu25 := Tryd.underlying25
  have hu27 := Tryd.underlying27
  have HA := Aside0.mk ha
  have HO := Aside0.mk ho
  have H0 := Aside0.mk h0
  have H1 := Aside0.mk h1
  have HS1 := Aside0.mk S1
  have HS2 := Aside0.mk S2
  have HS3 := Aside0.mk S3
  have HT := Aside0.mk T
  have HV := Aside0.mk V
  clear ha ho h0 h1 S1 S2 S3 T V
  have hlen : l1.length ≤ 9223372036854775807 := H1.out.2.1
  have C2 : (p3 = false ∧ s3 = false ∧ (l1.length : Int) < (na : Int)) ∨ (p3 = true ∧ q3 = true ∧ s3 = true) ∨ (p3 = true ∧ q3 = false ∧ s3 = false) := C.imp (fun h => ⟨h.1, h.2.1, by have := h.2.2; omega⟩) id
  clear C
  rcases C2 with ⟨rfl, rfl, hgt⟩ | ⟨rfl, rfl, rfl⟩ | ⟨rfl, rfl, rfl⟩
  all_goals
    go_enter Tryd.func3, Tryd.ntmps3
    go_wp2_with (first
      | (go_at_call 6; refine (cowrielaw20_alive.calls k true _ HA.out).mono ?_; rintro e w1 ⟨rfl, hb⟩; have z1 := XC.size_lt hb; have d0 := XC.kept_cell hb (XC.box3 w _ _ _ _).1; have d1 := XC.kept_cell hb (XC.box3 w _ _ _ _).2.1; have d2 := XC.kept_cell hb (XC.box3 w _ _ _ _).2.2; have HB := Aside0.mk (XC.below_self hb); clear hb; have tok1 : True := trivial)
      | (go_at_call 8; have _t := tok1; refine (Of_st A0 c0 l0 A1 c1 l1 st _ (Kd.C_below H0.out HB.out) g0 (Kd.C_below H1.out HB.out) g1 k HO.out).mono ?_; rintro e w2 ⟨B0, x0, B1, x1, rfl, G0, K0, G1, K1, hb⟩; clear tok1; have tok2 : True := trivial; have z2 := hb.size; have d0 := XC.kept_cell hb d0; have d1 := XC.kept_cell hb d1; have d2 := XC.kept_cell hb d2; have HB := Aside0.mk (XC.below_chain HB.out hb); clear hb)
      | (go_at_call 7; have _t := tok2; refine (Shift_st B0 x0 l0 B1 x1 l1 st na p0 p1 p2 _ _ K0.out G0.out K1.out G1.out k HS1.out).mono ?_; rintro e w3 ⟨D0, y0, D1, y1, rfl, Y0, Z0, Y1, Z1, hb⟩; clear tok2; have tok3 : True := trivial; have z3 := hb.size; have d0 := XC.kept_cell hb d0; have d1 := XC.kept_cell hb d1; have d2 := XC.kept_cell hb d2; have HB := Aside0.mk (XC.below_chain HB.out hb); clear hb)
      | (go_at_call 7; have _t := tok3; refine (Shift_st D0 y0 p0 D1 y1 p1 p2 nb q0 q1 q2 _ _ (Kd.C_alloc Z0.out _) Y0.out (Kd.C_alloc Z1.out _) Y1.out k HS2.out).mono ?_; rintro e w4 ⟨D2, y2, D3, y3, rfl, Y2, Z2, Y3, Z3, hb⟩; clear tok3; have tok4 : True := trivial; have z4 := XC.size_lt hb; have n4 : w.heap.size ≠ w4.heap.size := Nat.ne_of_lt (Nat.lt_trans (Nat.lt_of_lt_of_le z1 (Nat.le_trans z2 z3)) z4); have d0 := XC.kept_cell (XC.below_self hb) d0; have d1 := XC.kept_cell (XC.below_self hb) d1; have d2 := XC.kept_cell (XC.below_self hb) d2; have d0a := XC.cell_on d0 (Obj.cells #[Value.slice D2 q0.length y2, Value.slice D3 q1.length y3, Value.int IntKind.i64 q2] 27); have d1a := XC.cell_on d1 (Obj.cells #[Value.slice D2 q0.length y2, Value.slice D3 q1.length y3, Value.int IntKind.i64 q2] 27); have d2a := XC.cell_on d2 (Obj.cells #[Value.slice D2 q0.length y2, Value.slice D3 q1.length y3, Value.int IntKind.i64 q2] 27); have HB := Aside0.mk (XC.below_chain HB.out (XC.below_self hb)); clear hb)
      | (go_at_call 8; have _t := tok4; refine (Of_st A0 c0 l0 A1 c1 l1 st _ (Kd.C_alloc (Kd.C_below H0.out HB.out) _) g0 (Kd.C_alloc (Kd.C_below H1.out HB.out) _) g1 k HO.out).mono ?_; rintro e w5 ⟨B2, x2, B3, x3, rfl, G2, K2, G3, K3, hb⟩; clear tok4; have tok5 : True := trivial; have z5 := XC.size_lt hb; have d0 := XC.kept_cell (XC.below_self hb) d0; have d1 := XC.kept_cell (XC.below_self hb) d1; have d2 := XC.kept_cell (XC.below_self hb) d2; have f0 := XC.kept_cell hb (XC.box3 w4 _ _ _ _).1; have f1 := XC.kept_cell hb (XC.box3 w4 _ _ _ _).2.1; have f2 := XC.kept_cell hb (XC.box3 w4 _ _ _ _).2.2; have Z2 := Aside0.mk (Kd.C_below Z2.out (XC.below_self hb)); have Z3 := Aside0.mk (Kd.C_below Z3.out (XC.below_self hb)); have HB := Aside0.mk (XC.below_chain HB.out (XC.below_self hb)); clear hb)
      | (go_at_call 7; have _t := tok5; refine (Shift_st B2 x2 l0 B3 x3 l1 st _ s0 s1 s2 _ _ K2.out G2.out K3.out G3.out k HS3.out).mono ?_; rintro e w6 ⟨D4, y4, D5, y5, rfl, Y4, Z4, Y5, Z5, hb⟩; clear tok5; have z6 := hb.size; have m6 : w4.heap.size ≠ w6.heap.size := Nat.ne_of_lt (Nat.lt_of_lt_of_le z5 z6); have n6 : w.heap.size ≠ w6.heap.size := Nat.ne_of_lt (Nat.lt_trans (Nat.lt_trans (Nat.lt_of_lt_of_le z1 (Nat.le_trans z2 z3)) z4) (Nat.lt_of_lt_of_le z5 z6)); have d0 := XC.kept_cell hb d0; have d1 := XC.kept_cell hb d1; have d2 := XC.kept_cell hb d2; have f0 := XC.kept_cell hb f0; have f1 := XC.kept_cell hb f1; have f2 := XC.kept_cell hb f2; have d0a := XC.cell_on d0 (Obj.cells #[Value.slice D4 s0.length y4, Value.slice D5 s1.length y5, Value.int IntKind.i64 s2] 27); have d1a := XC.cell_on d1 (Obj.cells #[Value.slice D4 s0.length y4, Value.slice D5 s1.length y5, Value.int IntKind.i64 s2] 27); have d2a := XC.cell_on d2 (Obj.cells #[Value.slice D4 s0.length y4, Value.slice D5 s1.length y5, Value.int IntKind.i64 s2] 27); have f0a := XC.cell_on f0 (Obj.cells #[Value.slice D4 s0.length y4, Value.slice D5 s1.length y5, Value.int IntKind.i64 s2] 27); have f1a := XC.cell_on f1 (Obj.cells #[Value.slice D4 s0.length y4, Value.slice D5 s1.length y5, Value.int IntKind.i64 s2] 27); have f2a := XC.cell_on f2 (Obj.cells #[Value.slice D4 s0.length y4, Value.slice D5 s1.length y5, Value.int IntKind.i64 s2] 27); have Z2 := Aside0.mk (Kd.C_below Z2.out hb); have Z3 := Aside0.mk (Kd.C_below Z3.out hb); have HB := Aside0.mk (XC.below_chain HB.out hb); clear hb)
      | (go_at_call 9; refine (cowrieplain_SameTexts.calls k D3 y3 q1 D5 y5 s1 true _ (Kd.C_alloc Z3.out _) Y3.out (Kd.C_alloc Z5.out _) Y5.out HT.out).mono ?_; rintro e w7 ⟨rfl, ⟨nd, rfl⟩⟩)
      | (go_at_call 10; refine (cowrieplain_SameVars.calls k D2 y2 q0 D4 y4 s0 true _ (Kd.C_drewN (Kd.C_alloc Z2.out _) _) Y2.out (Kd.C_drewN (Kd.C_alloc Z4.out _) _) Y4.out HV.out).mono ?_; rintro e w8 ⟨rfl, hb⟩; have HB := Aside0.mk (XC.below_chain (pw_below_drewN (below_alloc HB.out _) _) hb); clear hb)
      | fail)
  all_goals go_ret
  all_goals (try simp)
  all_goals (first | exact HB.out | exact below_alloc HB.out _ | exact ⟨by simp <;> omega, HB.out⟩ | skip)


/-! ### shifts_law.tpl -/
theorem mono_le {α : Type} {f : Nat → Option α} (h : ∀ k, LeO (f k) (f (k + 1))) {k k' : Nat} (hk : k ≤ k') {r : α} (e : f k = some r) : f k' = some r := by
  induction hk with
  | refl => exact e
  | step _ ih => exact h _ _ ih
theorem wrap_small {i : Nat} (h : i ≤ 4611686018427387904) : wrap64 ((i : Int) + 1) = ((i + 1 : Nat) : Int) := by
  have : ((i : Int) + 1) = ((i + 1 : Nat) : Int) := by simp
  rw [this]; unfold wrap64; omega
theorem rd_at (l : List S53) (i : Nat) (h : i < l.length) : rd_T53 l (i : Int) = l[i] := by
  simp [rd_T53, List.getD_eq_getElem?_getD, h]
/-- a store of at most 2^20 variables, each of at most 2^20 elements -/
def Sm (l : List S53) : Prop := l.length ≤ 1048576 ∧ ∀ x ∈ l, x.f3.length ≤ 1048576
theorem copyTexts_some (l : List ByteArray) (h : l.length ≤ 1048576) : cowrieplain_CopyTexts.f l = some l := by
  unfold cowrieplain_CopyTexts.f
  rw [if_pos (by simp; omega), List.nil_append]
theorem copyVars_some (l : List S53) (h : Sm l) : ∀ n i k, i + n = l.length → n < k → cowrieplain_CopyVars.l0 k l (l.take i) (i : Int) = some l := by
  intro n
  induction n with
  | zero =>
    intro i k hi hk
    obtain ⟨k, rfl⟩ : ∃ k', k = k' + 1 := ⟨k - 1, by omega⟩
    unfold cowrieplain_CopyVars.l0
    rw [if_neg (by omega), List.take_of_length_le (by omega)]
  | succ n ih =>
    intro i k hi hk
    obtain ⟨k, rfl⟩ : ∃ k', k = k' + 1 := ⟨k - 1, by omega⟩
    have hil : i < l.length := by omega
    unfold cowrieplain_CopyVars.l0
    rw [if_pos (by omega), if_pos (by omega), rd_at l i hil, copyTexts_some _ (h.2 _ (List.getElem_mem hil))]
    have hs := h.1
    rw [Option.bind_some, if_pos (by rw [List.length_take]; omega), wrap_small (by omega)]
    have e : l.take i ++ [(⟨l[i].f0, l[i].f1, l[i].f2, l[i].f3⟩ : S53)] = l.take (i + 1) := by
      rw [List.take_succ_eq_append_getElem hil]
    rw [e]
    exact ih (i + 1) k (by omega) (by omega)
theorem Of_some (l0 : List S53) (l1 : List ByteArray) (st : Int) (h0 : Sm l0) (h1 : l1.length ≤ 1048576) (k : Nat) (hk : 1048577 ≤ k) : cowrielaw20_Of.f k l0 l1 st = some (l0, l1, st) := by
  have := copyVars_some l0 h0 l0.length 0 k (by omega) (by have := h0.1; omega)
  rw [List.take_zero] at this
  unfold cowrielaw20_Of.f cowrieplain_CopyVars.f
  rw [show cowrieplain_CopyVars.l0 k l0 [] 0 = some l0 from this, copyTexts_some _ h1]
  rfl
theorem own_some (l : List S53) (h : Sm l) : vars_own.f l = some l := by
  unfold vars_own.f
  have := h.1
  rw [if_pos (by omega), if_pos]
  simp only [List.all_eq_true, decide_eq_true_eq]
  intro x hx
  have := h.2 x hx
  omega
theorem clone_some (l : List ByteArray) (h : l.length ≤ 1048576) : slices_Clone_string_string.f l = some l := by
  unfold slices_Clone_string_string.f
  rw [if_pos (by simp; omega), List.nil_append]
theorem shift_some (l0 : List S53) (l1 : List ByteArray) (st : Int) (h0 : Sm l0) (h1 : l1.length ≤ 1048576) (n k : Nat) (hk : 1 ≤ k) :
    vars_Shift.f k l0 l1 st (n : Int) = some (if l1.length < n then ([], [], 0, false) else (l0, l1.drop n, st, true)) := by
  obtain ⟨k, rfl⟩ : ∃ k', k = k' + 1 := ⟨k - 1, by omega⟩
  unfold vars_Shift.f
  rw [if_neg (by omega)]
  rw [vars_Shift.j0]
  by_cases h : l1.length < n
  · rw [if_pos (by simp; omega), if_pos h]
  · rw [if_neg (by simp; omega), if_neg h, own_some _ h0, Option.bind_some, if_pos (by omega), if_pos (by omega), clone_some _ (by rw [List.length_drop]; omega), Option.bind_some, Int.toNat_natCast]
theorem sameTexts_l (l : List ByteArray) (h : l.length ≤ 1048576) : ∀ n i k, i + n = l.length → n < k → cowrieplain_SameTexts.l0 k l l (i : Int) = some true := by
  intro n
  induction n with
  | zero =>
    intro i k hi hk
    obtain ⟨k, rfl⟩ : ∃ k', k = k' + 1 := ⟨k - 1, by omega⟩
    unfold cowrieplain_SameTexts.l0
    rw [if_neg (by omega)]
  | succ n ih =>
    intro i k hi hk
    obtain ⟨k, rfl⟩ : ∃ k', k = k' + 1 := ⟨k - 1, by omega⟩
    unfold cowrieplain_SameTexts.l0
    rw [if_pos (by omega), if_pos (by omega), if_pos (by omega), if_pos rfl, wrap_small (by omega)]
    exact ih (i + 1) k (by omega) (by omega)
theorem sameTexts_some (l : List ByteArray) (h : l.length ≤ 1048576) (k : Nat) (hk : 1048577 ≤ k) : cowrieplain_SameTexts.f k l l = some true := by
  unfold cowrieplain_SameTexts.f
  rw [if_pos rfl]
  exact sameTexts_l l h l.length 0 k (by omega) (by omega)
theorem sameVars_l (l : List S53) (h : Sm l) : ∀ n i k, i + n = l.length → n + 1048577 < k → cowrieplain_SameVars.l0 k l l (i : Int) = some true := by
  intro n
  have hs := h.1
  induction n with
  | zero =>
    intro i k hi hk
    obtain ⟨k, rfl⟩ : ∃ k', k = k' + 1 := ⟨k - 1, by omega⟩
    unfold cowrieplain_SameVars.l0
    rw [if_neg (by omega)]
  | succ n ih =>
    intro i k hi hk
    obtain ⟨k, rfl⟩ : ∃ k', k = k' + 1 := ⟨k - 1, by omega⟩
    have hil : i < l.length := by omega
    unfold cowrieplain_SameVars.l0
    rw [if_pos (by omega), if_pos (by omega), if_pos (by omega), if_pos rfl, if_pos rfl, if_neg (by simp), rd_at l i hil, sameTexts_some _ (h.2 _ (List.getElem_mem hil)) k (by omega), Option.bind_some, if_pos rfl, wrap_small (by omega)]
    exact ih (i + 1) k (by omega) (by omega)
theorem sameVars_some (l : List S53) (h : Sm l) (k : Nat) (hk : 2097155 ≤ k) : cowrieplain_SameVars.f k l l = some true := by
  unfold cowrieplain_SameVars.f
  rw [if_pos rfl]
  exact sameVars_l l h l.length 0 k (by omega) (by have := h.1; omega)
theorem alive_some : cowrielaw20_alive.f 20 = some true := by decide +kernel
theorem nine (a : Int) (h : (Lit.int .i64 a).wf = true) : ∃ n : Nat, n < 9 ∧ (wrap64 (a.tmod 9 + 9)).tmod 9 = (n : Int) := by
  have h1 := Int.tmod_lt_of_pos a (b := 9) (by omega)
  have h2 : -9 < a.tmod 9 := Int.lt_tmod_of_pos a (by omega)
  have e : wrap64 (a.tmod 9 + 9) = a.tmod 9 + 9 := by unfold wrap64; omega
  rw [e]
  refine ⟨((a.tmod 9 + 9).tmod 9).toNat, ?_, ?_⟩ <;> rw [Int.tmod_eq_emod_of_nonneg (by omega)] <;> omega

/-! ### shifts_end.tpl -/
open Go.ChangeShapes Go.WideShapes Go.ChangeAt Go.Joins Go.Deep
set_option maxRecDepth 100000
theorem op_var (W : World) : XO.Op k53 Tryd.prog W 53 (fun x => 1 + x.f3.length) := by
  intro H enc sp held fuel cs x h
  obtain ⟨y0, y1, y2, y3, n, rfl, hl, h0, h1, h2, h3⟩ := Go.Joins.trod_struct4 Tryd.underlying53 h
  have hc : Tryd.prog.cellsOf 53 = 4 := by kernel_rfl
  have k9 : Tryd.prog.cellsOf 9 = 1 := by kernel_rfl
  have k4 : Tryd.prog.cellsOf 4 = 1 := by kernel_rfl
  have k23 : Tryd.prog.cellsOf 23 = 1 := by kernel_rfl
  rw [hc] at hl
  match cs, hl with
  | [c0, c1, c2, c3], _ =>
    simp [k9, k4, k23] at h0 h1 h2 h3
    obtain ⟨a0, e0, -⟩ := XO.op_string Tryd.underlying9 enc sp held n _ _ h0
    obtain ⟨a1, e1, -⟩ := XO.op_string Tryd.underlying9 enc sp held n _ _ h1
    obtain ⟨a2, e2, -⟩ := XO.op_bool Tryd.underlying4 enc sp held n _ _ h2
    obtain ⟨a3, A3, c3', e3, l3, g3, b3⟩ := XO.slice_C Tryd.underlying23 k9 (XO.op_string Tryd.underlying9) h3
    have e0' : [c0] = [Value.string a0] := e0
    have e1' : [c1] = [Value.string a1] := e1
    have e2' : [c2] = [Value.bool a2] := e2
    injection e0' with e0'; injection e1' with e1'; injection e2' with e2'; injection e3 with e3
    subst e0' e1' e2' e3
    refine ⟨⟨a0, a1, a2, a3⟩, k53_mk W ⟨a0, a1, a2, a3⟩ l3 g3, ?_⟩
    have := XO.wsum_len (fun s : ByteArray => s.size + 1) (fun _ => by omega) a3
    simp only [Rows.uptoBulk, Rows.uptoBulkAll]
    show 1 + a3.length ≤ _
    omega
/-- a store's two rows, of what is read -/
theorem open_store {H : Type} {W : World} {base : Nat} {v : Value} {enc : TypeId × Value → H} {d : DataW H} {p : List MemPlace} {T : TypeId} {f0 f1 f2 : Field}
    (hs : Tryd.prog.underlying T = some (.struct #[f0, f1, f2])) (hone : oneCellFields Tryd.prog #[f0, f1, f2] = true) (hC : Tryd.prog.cellsOf T = 3) (t0 : f0.type = 22) (t1 : f1.type = 23) (t2 : f2.type = 3)
    (hv : Value.okWide Tryd.prog W .any base T v) (h : DataW.Trod enc Tryd.prog W 0 (fun _ => true) true T v d p) :
    ∃ (A0 : Option Addr) (c0 : Nat) (l0 : List S53) (A1 : Option Addr) (c1 : Nat) (l1 : List ByteArray) (st : Int), v = .agg #[.slice A0 l0.length c0, .slice A1 l1.length c1, .int .i64 st] ∧ l0.length ≤ c0 ∧ Kd.C k53 W A0 l0.length l0 ∧ l1.length ≤ c1 ∧ Kd.C Kd.string W A1 l1.length l1 ∧
      (Lit.int .i64 st).wf = true ∧ (Rows.uptoBulk d ≤ 1048576 → Sm l0 ∧ l1.length ≤ 1048576) := by
  obtain ⟨v0, v1, v2, y0, y1, y2, n, rfl, rfl, rfl, g0, g1, g2⟩ := Go.Joins.open_agg3 hs hone hC hv h
  rw [t0] at g0; rw [t1] at g1; rw [t2] at g2
  have k53 : Tryd.prog.cellsOf 53 = 4 := by kernel_rfl
  have k9 : Tryd.prog.cellsOf 9 = 1 := by kernel_rfl
  obtain ⟨l0, A0, c0, e0, b0, C0, w0⟩ := XO.slice_C Tryd.underlying22 k53 (op_var W) g0
  obtain ⟨l1, A1, c1, e1, b1, C1, w1⟩ := XO.slice_C Tryd.underlying23 k9 (XO.op_string Tryd.underlying9) g1
  obtain ⟨st, e2, -, hw⟩ := DataW.trod_int Tryd.underlying3 g2
  injection e0 with e0; injection e1 with e1; injection e2 with e2
  subst e0 e1 e2
  refine ⟨A0, c0, l0, A1, c1, l1, st, rfl, b0, C0, b1, C1, hw, fun hb => ?_⟩
  simp only [Rows.uptoBulk, Rows.uptoBulkAll] at hb
  have q0 := XO.wsum_len (fun x : S53 => 1 + x.f3.length) (fun _ => by omega) l0
  have q1 := XO.wsum_len (fun s : ByteArray => s.size + 1) (fun _ => by omega) l1
  refine ⟨⟨by omega, fun x hx => ?_⟩, by omega⟩
  have := XO.wsum_mem (fun x : S53 => 1 + x.f3.length) l0 x hx
  have h2 : 1 + x.f3.length ≤ XO.wsum (fun x : S53 => 1 + x.f3.length) l0 := this
  omega
theorem Sm_nil : Sm [] := ⟨by simp, by simp⟩
theorem VarsShifts {H : Type} (W : World) (base : Nat) (v0 v1 v2 : Value) (enc : TypeId × Value → H) {d0 d1 d2 : DataW H} {p0 p1 p2 : List MemPlace}
    (hv0 : Value.okWide Tryd.prog W .any base 25 v0) (h0 : DataW.Trod enc Tryd.prog W 0 (fun _ => true) true 25 v0 d0 p0)
    (hv1 : Value.okWide Tryd.prog W .any base 3 v1) (h1 : DataW.Trod enc Tryd.prog W 0 (fun _ => true) true 3 v1 d1 p1)
    (hv2 : Value.okWide Tryd.prog W .any base 3 v2) (h2 : DataW.Trod enc Tryd.prog W 0 (fun _ => true) true 3 v2 d2 p2)
    (hL : laidMetH Tryd.prog Rows.varsShiftsUptoRow.laid W) (hb : Rows.uptoBulkAll [d0, d1, d2] ≤ 1048576) :
    Calls Tryd.prog 3 #[v0, v1, v2] W fun e w' => e = .returned (.bool true) ∧ Below W.heap.size W w' := by
  obtain ⟨A0, c0, l0, A1, c1, l1, st, rfl, b0, C0, b1, C1, hw, hsm⟩ := open_store Tryd.underlying25 (by kernel_rfl) (by kernel_rfl) rfl rfl rfl hv0 h0
  obtain ⟨a, rfl, rfl, rfl, wa⟩ := open_int Tryd.underlying3 hv1 h1
  obtain ⟨b, rfl, rfl, rfl, wb⟩ := open_int Tryd.underlying3 hv2 h2
  obtain ⟨sm, s1⟩ := hsm (by simp only [Rows.uptoBulkAll] at hb; omega)
  obtain ⟨na, la, ea⟩ := nine a wa
  obtain ⟨nb, lb, eb⟩ := nine b wb
  have hk : 1 ≤ 4000000 := by omega
  have ha := mono_le cowrielaw20_alive.mono (k := 20) (k' := 4000000) (by omega) alive_some
  have ho := Of_some l0 l1 st sm s1 4000000 (by omega)
  have S1 := shift_some l0 l1 st sm s1 na 4000000 hk
  have S3 := shift_some l0 l1 st sm s1 (na + nb) 4000000 hk
  have ec : ((na + nb : Nat) : Int) = (na : Int) + nb := by simp
  rw [ec] at S3
  by_cases c1' : l1.length < na
  · rw [if_pos c1'] at S1
    rw [if_pos (by omega)] at S3
    have S2 := shift_some [] [] 0 Sm_nil (by simp) nb 4000000 hk
    by_cases c2 : ([] : List ByteArray).length < nb
    · rw [if_pos c2] at S2
      exact shifts_walk A0 c0 l0 A1 c1 l1 st a b W C0 b0 C1 b1 4000000 ha ho na nb ea eb la lb _ _ _ _ _ _ _ _ _ _ _ _ S1 S2 S3 (sameTexts_some [] (by simp) _ (by omega)) (sameVars_some [] Sm_nil _ (by omega)) (.inl ⟨rfl, rfl, c1'⟩)
    · rw [if_neg c2, List.drop_nil] at S2
      exact shifts_walk A0 c0 l0 A1 c1 l1 st a b W C0 b0 C1 b1 4000000 ha ho na nb ea eb la lb _ _ _ _ _ _ _ _ _ _ _ _ S1 S2 S3 (sameTexts_some [] (by simp) _ (by omega)) (sameVars_some [] Sm_nil _ (by omega)) (.inl ⟨rfl, rfl, c1'⟩)
  · rw [if_neg c1'] at S1
    have hd : (l1.drop na).length = l1.length - na := List.length_drop
    have S2 := shift_some l0 (l1.drop na) st sm (by omega) nb 4000000 hk
    by_cases c2 : (l1.drop na).length < nb
    · rw [if_pos c2] at S2
      rw [if_pos (by omega)] at S3
      exact shifts_walk A0 c0 l0 A1 c1 l1 st a b W C0 b0 C1 b1 4000000 ha ho na nb ea eb la lb _ _ _ _ _ _ _ _ _ _ _ _ S1 S2 S3 (sameTexts_some [] (by simp) _ (by omega)) (sameVars_some [] Sm_nil _ (by omega)) (.inr (.inr ⟨rfl, rfl, rfl⟩))
    · rw [if_neg c2, List.drop_drop] at S2
      rw [if_neg (by omega)] at S3
      exact shifts_walk A0 c0 l0 A1 c1 l1 st a b W C0 b0 C1 b1 4000000 ha ho na nb ea eb la lb _ _ _ _ _ _ _ _ _ _ _ _ S1 S2 S3 (sameTexts_some _ (by rw [List.length_drop]; omega) _ (by omega)) (sameVars_some l0 sm _ (by omega)) (.inr (.inl ⟨rfl, rfl, rfl⟩))

end Go.Proofs.YtpljochiegallaaDoor.XVars
