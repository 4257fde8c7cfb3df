-- WRITTEN BY xprint.py, a program of this session (over the kit's print)
import Derived.Test.YtpljochiegallaaDoorBXVBx0
import Derived.Test.YtpljochiegallaaDoorBXVBx1
import Derived.Test.YtpljochiegallaaDoorBXVBx11
namespace Go.Proofs.YtpljochiegallaaDoor.XVB
open Go.RowKit Go.Proofs.YtpljochiegallaaDoorW.PrintWords Go.Proofs.YtpljochiegallaaDoorW.PrintLast Go.Proofs.YtpljochiegallaaDoorW.PrintMore
attribute [local go_sem] max2_int min2_int max_two min_two max_three min_three max_four min_four   -- for this text's walks alone
set_option linter.unusedVariables false
set_option linter.unusedSimpArgs false

/-! ### vars_texts: function 43 -/
set_option maxHeartbeats 2000000 in
theorem ixf_string.calls (g : Nat) (caps : Array Value) (eg : ∀ args w, (callFunc g args).run Tryd.prog w = .ok (.enter g args) w) (p : ByteArray → Bool) (A : Option Addr) (c : Nat) (l : List ByteArray) (w : World) (hr : Kd.C Kd.string w A l.length l)
  (hp : ∀ (W : World) (x : ByteArray), Below w.heap.size w W → x ∈ l → Calls Tryd.prog g (#[.string x] ++ caps) W fun e W' => e = .returned (.bool (p x)) ∧ Below W.heap.size W W') :
  Calls Tryd.prog 82 #[.slice A l.length c, .func (.func g) #[] caps] w fun e w' => e = .returned (.int .i64 (XC.idxI p l)) ∧ Below w.heap.size w w' := by
 have hbig : l.length ≤ 9223372036854775807 := hr.2.1
 have HR := bu hr
 have HP := bu hp
 clear hr hp
 go_enter Tryd.func82, Tryd.ntmps82
 go_wp2
 go_loopg [5, 8] l.length (fun gg _ s8 wr => ∃ kk : Nat, kk ≤ l.length ∧ l.length - kk ≤ gg ∧ s8 = .int .i64 kk ∧ Aside0 (Below w.heap.size w wr) ∧ Aside0 (∀ j, j < kk → p (l.getD j ByteArray.empty) = false))
 case atStart => exact ⟨0, Nat.zero_le _, by omega, rfl, ⟨bw _ _⟩, ⟨fun j hj => absurd hj (Nat.not_lt_zero _)⟩⟩
 case round =>
  obtain ⟨kk, hkk, hg, rfl, HB, HA⟩ := hrel
  by_cases hlt : kk < l.length
  ·
   have hltz : (kk : Int) < (l.length : Int) := by omega
   obtain ⟨ad, cs, rfl, _, hK, hc0⟩ := Kd.C_get (br HR.out HB.out) ByteArray.empty kk (by omega) (by omega)
   have hcs : cs = [.string (l.getD kk ByteArray.empty)] := hK
   subst hcs
   have hcell : wr.cell? (ad.add kk) = some (.string (l.getD kk ByteArray.empty)) := by
    have := hc0 0 _ rfl
    simpa [Kd.string, Kd.scalar] using this
   clear hc0 hK
   have hcall := HP.out wr (l.getD kk ByteArray.empty) HB.out (by rw [XC.getD_at l ByteArray.empty kk hlt]; exact List.getElem_mem hlt)
   generalize hx : l.getD kk ByteArray.empty = x at hcell hcall
   have HX := bu hx
   clear hx
   cases hq : p x with
   | true =>
    rw [hq] at hcall
    have HQ := bu hq
    clear hq
    go_wp2_with (go_at_fn g; refine hcall.mono ?_; rintro e w' ⟨rfl, hb'⟩)
    go_ret
    exact ⟨by rw [XC.idxI_hit p l ByteArray.empty kk hlt (by rw [HX.out]; exact HQ.out) HA.out]; rfl, XC.below_chain HB.out hb'⟩
   | false =>
    rw [hq] at hcall
    have HQ := bu hq
    clear hq
    go_wp2_with (go_at_fn g; refine hcall.mono ?_; rintro e w' ⟨rfl, hb'⟩)
    go_roundg (l.length - (kk + 1))
    case measure => omega
    case rel =>
     refine ⟨kk + 1, by omega, by omega, by go_num, ⟨XC.below_chain HB.out hb'⟩, ⟨fun j hj => ?_⟩⟩
     by_cases e : j = kk
     ·
      subst e; rw [HX.out]; exact HQ.out
     ·
      exact HA.out j (by omega)
  ·
   have hltz : ¬ (kk : Int) < (l.length : Int) := by omega
   have HE : Aside0 (kk = l.length) := ⟨by omega⟩
   go_wp2
   go_ret
   exact ⟨by rw [XC.idxI_miss p l ByteArray.empty (by rw [← HE.out]; exact HA.out)]; rfl, HB.out⟩
set_option maxHeartbeats 2000000 in
theorem cof_string.calls (g : Nat) (caps : Array Value) (eg : ∀ args w, (callFunc g args).run Tryd.prog w = .ok (.enter g args) w) (p : ByteArray → Bool) (A : Option Addr) (c : Nat) (l : List ByteArray) (w : World) (hr : Kd.C Kd.string w A l.length l)
  (hp : ∀ (W : World) (x : ByteArray), Below w.heap.size w W → x ∈ l → Calls Tryd.prog g (#[.string x] ++ caps) W fun e W' => e = .returned (.bool (p x)) ∧ Below W.heap.size W W') :
  Calls Tryd.prog 64 #[.slice A l.length c, .func (.func g) #[] caps] w fun e w' => e = .returned (.bool (l.any p)) ∧ Below w.heap.size w w' := by
 have hc := ixf_string.calls g caps eg p A c l w hr hp
 have e1 := XC.idxI_geq p l
 have e2 := XC.idxI_lt p l
 generalize XC.idxI p l = i at hc e1 e2
 have HE := bu e1
 clear hr hp e1 e2
 go_enter Tryd.func64, Tryd.ntmps64
 go_wp2_with (go_at_call 82; refine hc.mono ?_; rintro e w' ⟨rfl, hb⟩)
 go_ret
 exact ⟨by rw [← HE.out]; rfl, hb⟩
def texts_bad (s : ByteArray) : Bool := decide ((s.size : Int) > 65536) || decide (Lib.indexByte s.data.toList 0 ≥ 0)
theorem vars_texts_1_some (s : ByteArray) : vars_texts_1.f s = some (texts_bad s) := by
 unfold vars_texts_1.f texts_bad
 by_cases h : (s.size : Int) > 65536
 ·
  rw [if_pos h]; simp [h]
 ·
  rw [if_neg h]
  unfold strings_IndexByte.f
  rw [Option.bind_some]
  simp [h]
def vars_texts.f (l0 : List ByteArray) : Option Bool := some (!l0.any texts_bad)
set_option maxHeartbeats 1000000 in
theorem vars_texts.calls (A0 : Option Addr) (c0 : Nat) (l0 : List ByteArray) (r : Bool) (w : World) (hr0 : Kd.C Kd.string w A0 l0.length l0) (hc0 : l0.length ≤ c0) (h : vars_texts.f l0 = some r) :
  Calls Tryd.prog 43 #[.slice A0 l0.length c0] w fun e w' => e = .returned (.bool r) ∧ Below w.heap.size w w' := by
 obtain rfl := Option.some.inj h
 clear h hc0
 have e1 : ∀ args w, (callFunc 65 args).run Tryd.prog w = .ok (.enter 65 args) w := XC.enters Tryd.func65 (by kernel_rfl) rfl
 have hv := cof_string.calls 65 #[] e1 texts_bad A0 c0 l0 w hr0 (fun W x hb hx => (vars_texts_1.calls x _ W (vars_texts_1_some x)).mono fun e W' h' => ⟨h'.1, h'.2.below⟩)
 have HV := bu hv
 clear hv hr0
 go_enter Tryd.func43, Tryd.ntmps43
 go_wp2_with (go_at_call 64; refine HV.out.mono ?_; rintro e w' ⟨rfl, hb⟩)
 go_ret
 exact ⟨rfl, hb⟩

/-! ### vars_variable: function 42 -/
def vars_variable.f (a0_0 : ByteArray) (a0_1 : ByteArray) (a0_2 : Bool) (l0_3 : List ByteArray) : Option (Bool) := (octets_Name.f a0_0).bind fun t265 => (if t265 = true then ((vars_texts.f (([a0_1] : List ByteArray))).bind fun t269 => (if t269 = true then ((vars_texts.f l0_3).bind fun t270 => (if t270 = true then (if (l0_3.length : Int) ≤ 1024 then (if a0_2 = true then (if a0_1.toList = ([] : List UInt8) then (some true) else (some false)) else (some ((l0_3.length : Int) == 0))) else (some false)) else (some false))) else (some false))) else (some false))
set_option maxHeartbeats 8000000 in
set_option maxRecDepth 100000 in
theorem vars_variable.calls (bE : ByteArray) (bB : ByteArray) (bK : Bool) (bG : Option Addr) (bH : Nat) (bC : List ByteArray) (r : Bool) (w : World) (hr0_3 : Kd.C Kd.string w bG bC.length bC) (hc0_3 : bC.length ≤ bH) (h : vars_variable.f bE bB bK bC = some r) :
  Calls Tryd.prog 42 #[.agg #[.string bE, .string bB, .bool bK, .slice bG bC.length bH]] w fun e w' => e = .returned (.bool r) ∧ Below w.heap.size w w' := by
 have hu53 := Tryd.underlying53
 have HR0_3 := bu hr0_3
 have HC0_3 := bu hc0_3
 clear hr0_3 hc0_3
 have HB := bu (bw w.heap.size w)
 have H : ((octets_Name.f bE).bind fun t265 => (if t265 = true then ((vars_texts.f (([bB] : List ByteArray))).bind fun t269 => (if t269 = true then ((vars_texts.f bC).bind fun bO => (if bO = true then (if (bC.length : Int) ≤ 1024 then (if bK = true then (if bB.toList = ([] : List UInt8) then (some true) else (some false)) else (some ((bC.length : Int) == 0))) else (some false)) else (some false))) else (some false))) else (some false))) = some r := h
 clear h
 replace H := Option.bind_eq_some_iff.mp H
 obtain ⟨t265, A20, H⟩ := H
 replace H : (if t265 = true then ((vars_texts.f (([bB] : List ByteArray))).bind fun t269 => (if t269 = true then ((vars_texts.f bC).bind fun bO => (if bO = true then (if (bC.length : Int) ≤ 1024 then (if bK = true then (if bB.toList = ([] : List UInt8) then (some true) else (some false)) else (some ((bC.length : Int) == 0))) else (some false)) else (some false))) else (some false))) else (some false)) = some r := H
 have A2 := bu A20
 clear A20
 by_cases c3 : t265 = true
 ·
  subst c3
  have H1 : ((vars_texts.f (([bB] : List ByteArray))).bind fun t269 => (if t269 = true then ((vars_texts.f bC).bind fun bO => (if bO = true then (if (bC.length : Int) ≤ 1024 then (if bK = true then (if bB.toList = ([] : List UInt8) then (some true) else (some false)) else (some ((bC.length : Int) == 0))) else (some false)) else (some false))) else (some false))) = some r := by rw [if_pos rfl] at H; exact H
  clear H
  have H := H1
  clear H1
  obtain ⟨y266, hy266⟩ : ∃ y_ : List ByteArray, y_ = (([bB] : List ByteArray)) := ⟨_, rfl⟩
  replace H : ((vars_texts.f y266).bind fun t269 => (if t269 = true then ((vars_texts.f bC).bind fun bO => (if bO = true then (if (bC.length : Int) ≤ 1024 then (if bK = true then (if bB.toList = ([] : List UInt8) then (some true) else (some false)) else (some ((bC.length : Int) == 0))) else (some false)) else (some false))) else (some false))) = some r := by first | (rw [hy266]; with_reducible exact H) | (have H2_ := (Option.bind_some _ _).symm.trans H; rw [hy266]; with_reducible exact H2_) | (have H2_ := (Option.bind_some _ _).symm.trans H; with_reducible exact H2_) | with_reducible exact H | (rw [hy266]; exact H) | exact H
  have Ny266 := bu hy266
  clear hy266
  replace H := Option.bind_eq_some_iff.mp H
  obtain ⟨t269, A40, H⟩ := H
  replace H : (if t269 = true then ((vars_texts.f bC).bind fun bO => (if bO = true then (if (bC.length : Int) ≤ 1024 then (if bK = true then (if bB.toList = ([] : List UInt8) then (some true) else (some false)) else (some ((bC.length : Int) == 0))) else (some false)) else (some false))) else (some false)) = some r := H
  have A4 := bu A40
  clear A40
  by_cases c5 : t269 = true
  ·
   subst c5
   have H1 : ((vars_texts.f bC).bind fun bO => (if bO = true then (if (bC.length : Int) ≤ 1024 then (if bK = true then (if bB.toList = ([] : List UInt8) then (some true) else (some false)) else (some ((bC.length : Int) == 0))) else (some false)) else (some false))) = some r := by rw [if_pos rfl] at H; exact H
   clear H
   have H := H1
   clear H1
   replace H := Option.bind_eq_some_iff.mp H
   obtain ⟨bO, A60, H⟩ := H
   replace H : (if bO = true then (if (bC.length : Int) ≤ 1024 then (if bK = true then (if bB.toList = ([] : List UInt8) then (some true) else (some false)) else (some ((bC.length : Int) == 0))) else (some false)) else (some false)) = some r := H
   have A6 := bu A60
   clear A60
   by_cases c7 : bO = true
   ·
    subst c7
    have H1 : (if (bC.length : Int) ≤ 1024 then (if bK = true then (if bB.toList = ([] : List UInt8) then (some true) else (some false)) else (some ((bC.length : Int) == 0))) else (some false)) = some r := by rw [if_pos rfl] at H; exact H
    clear H
    have H := H1
    clear H1
    by_cases c8 : (bC.length : Int) ≤ 1024
    ·
     rw [if_pos c8] at H
     have c8b0 : decide ((bC.length : Int) ≤ 1024) = true := decide_eq_true c8
     have c8b1 : decide (bC.length ≤ 1024) = true := decide_eq_true (by omega)
     clear c8
     by_cases c9 : bK = true
     ·
      subst c9
      have H1 : (if bB.toList = ([] : List UInt8) then (some true) else (some false)) = some r := by rw [if_pos rfl] at H; exact H
      clear H
      have H := H1
      clear H1
      by_cases c10 : bB.toList = ([] : List UInt8)
      ·
       rw [if_pos c10] at H
       have c10b0 : (bB.toList == ([] : List UInt8)) = true := beq_iff_eq.mpr c10
       have c10b1 : (bB.toList != ([] : List UInt8)) = false := bne_eq_false_iff_eq.mpr c10
       clear c10
       obtain rfl := Option.some.inj H
       go_enter Tryd.func42, Tryd.ntmps42
       go_wp2_with (first | ((with_reducible refine gate_dst (N := 1) rfl ?_); (try (refine gate_guard (by rfl) ?_; dsimp only)); refine box_event ?hg (N := 1) ?hd (cs := #[.string bE, .string bB, .bool true, .slice bG bC.length bH]) (t := 53) ?hr ?_; (case hd => rfl); (case hg => rfl); (case hr => first | (go_simp; done) | (go_simp; rfl)); intro bA hg w11 hbox hb; have bI := bu (below_step (by repeat (first | (with_reducible first | exact HB.out | apply bm | apply bj | apply bn) | exact HB.out)) hb); have bJ := bu (hbox); have bL := bu ((by rw [hg]; exact (bs (by repeat (first | (with_reducible first | exact HB.out | apply bm | apply bj | apply bn) | exact HB.out))) : w.heap.size ≤ bA)); have n3_ := bu ((by rw [hg]; exact (bs (by repeat (first | (with_reducible first | exact HB.out | apply bm | apply bj | apply bn) | exact HB.out))) : w.heap.size ≤ bA)); clear HB; have HB := bI; have bz := bJ; have GW264 := bL; have bF := n3_; clear bI bJ bL n3_; clear hb hbox hg; have hcz12_0 : w11.cell? ⟨bA, 0, none⟩ = some (.string bE) := (bo bz.out 0).trans rfl; have hcz12_1 : w11.cell? ⟨bA, 1, none⟩ = some (.string bB) := (bo bz.out 1).trans rfl; have hcz12_2 : w11.cell? ⟨bA, 2, none⟩ = some (.bool true) := (bo bz.out 2).trans rfl; have hcz12_3 : w11.cell? ⟨bA, 3, none⟩ = some (.slice bG bC.length bH) := (bo bz.out 3).trans rfl; have hfz12_0 := bk bz.out 0; have hfz12_1 := bk bz.out 1; have hfz12_2 := bk bz.out 2; have hfz12_3 := bk bz.out 3) | ((with_reducible refine bv (f := 34) rfl ?_); refine goesL_ (some 5) rfl rfl Tryd.func34 (by kernel_rfl) rfl #[.string bE] rfl (by (try simp only [List.map_toArray, List.map_cons, List.map_nil]); first | done | rfl | (simp only [List.length_drop, List.length_take]; rfl)) ?_; (with_reducible refine (octets_Name.calls bE true _ A2.out).mono ?_); rintro e w13 ⟨rfl, hb⟩; refine ⟨_, rfl, ?_⟩; have bI := bu (bl (g := bA) (o := .cells #[.string bE, .string bB, .bool true, .slice bG bC.length bH] 53 (0, 0)) (by (with_reducible repeat (first | refine a4 ?_ _ | refine bh ?_ | refine a5 ?_ _)); exact bz.out) hb); have bJ := bu (below_step (by repeat (first | (with_reducible first | exact HB.out | apply bm | apply bj | apply bn | refine bi ?_ bF.out) | exact HB.out)) hb); clear bz; clear HB; have bz := bI; have HB := bJ; clear bI bJ; (try clear hb); (try clear hb2); (try clear hk); (try clear hi); have hcz14_0 : w13.cell? ⟨bA, 0, none⟩ = some (.string bE) := (bo bz.out 0).trans rfl; have hcz14_1 : w13.cell? ⟨bA, 1, none⟩ = some (.string bB) := (bo bz.out 1).trans rfl; have hcz14_2 : w13.cell? ⟨bA, 2, none⟩ = some (.bool true) := (bo bz.out 2).trans rfl; have hcz14_3 : w13.cell? ⟨bA, 3, none⟩ = some (.slice bG bC.length bH) := (bo bz.out 3).trans rfl; have hfz14_0 := bk bz.out 0; have hfz14_1 := bk bz.out 1; have hfz14_2 := bk bz.out 2; have hfz14_3 := bk bz.out 3) | ((with_reducible refine gate_dst (N := 9) rfl ?_); (try (refine gate_guard (by rfl) ?_; dsimp only)); refine Kd.R_lit Kd.string _ 9 ?hg (N := 9) ?hd (xs := ([bB] : List ByteArray)) (inner := [.string bB]) (ok := fun _ => True) (okp := fun _ => True) ?hr ?hp (fun _ hk => hk) trivial (bw _ _) (Nat.le_refl _) (by simp) ?_; (case hd => rfl); (case hg => rfl); (case hr => first | (go_simp; done) | (go_simp; rfl)); (case hp => exact (Reps.one (show Kd.M Kd.string _ _ _ bB [.string bB] from rfl) (Reps.none _ _))); intro v267 w15 ho16 hb hg_ hnew_; clear hg_ hnew_; (first | rw [← Ny266.out] at ho16 | (simp only [Int.reduceToNat] at ho16; rw [← Ny266.out] at ho16)); have bI := bu (Kd.R_lower ho16 (bs (by repeat (first | (with_reducible first | exact HB.out | apply bm | apply bj | apply bn | refine bi ?_ bF.out) | exact HB.out)))); have bJ := bu (bl (g := bA) (o := .cells #[.string bE, .string bB, .bool true, .slice bG bC.length bH] 53 (0, 0)) (by (with_reducible repeat (first | refine a4 ?_ _ | refine bh ?_ | refine a5 ?_ _)); exact bz.out) hb); have bL := bu (below_step (by repeat (first | (with_reducible first | exact HB.out | apply bm | apply bj | apply bn | refine bi ?_ bF.out) | exact HB.out)) hb); clear bz; clear HB; have bD := bI; have bz := bJ; have HB := bL; clear bI bJ bL; clear hb ho16; obtain ⟨Ao17, co17, eo17⟩ := Kd.R_slice bD.out; subst eo17) | (go_at_call 43; (with_reducible refine (vars_texts.calls _ _ y266 true _ ?bM ?bN A4.out).mono ?_); (case bM => repeat (first | exact (Kd.R_reads' bD.out).2.2 | (with_reducible refine bp ?_ _) | (with_reducible refine bq ?_ _) | (with_reducible refine Kd.C_drew ?_))); (case bN => exact (Kd.R_reads' bD.out).2.1); rintro e w18 ⟨rfl, hb⟩; have bI := bu (Kd.R_below (by (with_reducible repeat (first | apply Kd.R_alloc | apply Kd.R_drewN | apply Kd.R_drew)); exact bD.out) hb); have bJ := bu (bl (g := bA) (o := .cells #[.string bE, .string bB, .bool true, .slice bG bC.length bH] 53 (0, 0)) (by (with_reducible repeat (first | refine a4 ?_ _ | refine bh ?_ | refine a5 ?_ _)); exact bz.out) hb); have bL := bu (below_step (by repeat (first | (with_reducible first | exact HB.out | apply bm | apply bj | apply bn | refine bi ?_ bF.out) | exact HB.out)) hb); clear bD; clear bz; clear HB; have bD := bI; have bz := bJ; have HB := bL; clear bI bJ bL; (try clear hb); (try clear hb2); (try clear hk); (try clear hi); have hcz19_0 : w18.cell? ⟨bA, 0, none⟩ = some (.string bE) := (bo bz.out 0).trans rfl; have hcz19_1 : w18.cell? ⟨bA, 1, none⟩ = some (.string bB) := (bo bz.out 1).trans rfl; have hcz19_2 : w18.cell? ⟨bA, 2, none⟩ = some (.bool true) := (bo bz.out 2).trans rfl; have hcz19_3 : w18.cell? ⟨bA, 3, none⟩ = some (.slice bG bC.length bH) := (bo bz.out 3).trans rfl; have hfz19_0 := bk bz.out 0; have hfz19_1 := bk bz.out 1; have hfz19_2 := bk bz.out 2; have hfz19_3 := bk bz.out 3) | (go_at_call 43; (with_reducible refine (vars_texts.calls _ _ bC true _ ?bM ?bN A6.out).mono ?_); (case bM => repeat (first | exact (br HR0_3.out HB.out) | (with_reducible refine bp ?_ _) | (with_reducible refine bq ?_ _) | (with_reducible refine Kd.C_drew ?_))); (case bN => exact HC0_3.out); rintro e w20 ⟨rfl, hb⟩; have bI := bu (Kd.R_below (by (with_reducible repeat (first | apply Kd.R_alloc | apply Kd.R_drewN | apply Kd.R_drew)); exact bD.out) hb); have bJ := bu (bl (g := bA) (o := .cells #[.string bE, .string bB, .bool true, .slice bG bC.length bH] 53 (0, 0)) (by (with_reducible repeat (first | refine a4 ?_ _ | refine bh ?_ | refine a5 ?_ _)); exact bz.out) hb); have bL := bu (below_step (by repeat (first | (with_reducible first | exact HB.out | apply bm | apply bj | apply bn | refine bi ?_ bF.out) | exact HB.out)) hb); clear bD; clear bz; clear HB; have bD := bI; have bz := bJ; have HB := bL; clear bI bJ bL; (try clear hb); (try clear hb2); (try clear hk); (try clear hi); have hcz21_0 : w20.cell? ⟨bA, 0, none⟩ = some (.string bE) := (bo bz.out 0).trans rfl; have hcz21_1 : w20.cell? ⟨bA, 1, none⟩ = some (.string bB) := (bo bz.out 1).trans rfl; have hcz21_2 : w20.cell? ⟨bA, 2, none⟩ = some (.bool true) := (bo bz.out 2).trans rfl; have hcz21_3 : w20.cell? ⟨bA, 3, none⟩ = some (.slice bG bC.length bH) := (bo bz.out 3).trans rfl; have hfz21_0 := bk bz.out 0; have hfz21_1 := bk bz.out 1; have hfz21_2 := bk bz.out 2; have hfz21_3 := bk bz.out 3))
       go_ret
       exact ⟨by first | rfl | (simp [errW_none, errW_some] <;> rfl) | (simp [*, errW_none, errW_some] <;> rfl), by repeat (first | (with_reducible first | exact HB.out | apply bm | apply bj | apply bn | refine bi ?_ bF.out) | exact HB.out)⟩
      ·
       rw [if_neg c10] at H
       have c10b0 : (bB.toList == ([] : List UInt8)) = false := beq_eq_false_iff_ne.mpr c10
       have c10b1 : (bB.toList != ([] : List UInt8)) = true := bne_iff_ne.mpr c10
       obtain rfl := Option.some.inj H
       go_enter Tryd.func42, Tryd.ntmps42
       go_wp2_with (first | ((with_reducible refine gate_dst (N := 1) rfl ?_); (try (refine gate_guard (by rfl) ?_; dsimp only)); refine box_event ?hg (N := 1) ?hd (cs := #[.string bE, .string bB, .bool true, .slice bG bC.length bH]) (t := 53) ?hr ?_; (case hd => rfl); (case hg => rfl); (case hr => first | (go_simp; done) | (go_simp; rfl)); intro bA hg w22 hbox hb; have bI := bu (below_step (by repeat (first | (with_reducible first | exact HB.out | apply bm | apply bj | apply bn) | exact HB.out)) hb); have bJ := bu (hbox); have bL := bu ((by rw [hg]; exact (bs (by repeat (first | (with_reducible first | exact HB.out | apply bm | apply bj | apply bn) | exact HB.out))) : w.heap.size ≤ bA)); have n3_ := bu ((by rw [hg]; exact (bs (by repeat (first | (with_reducible first | exact HB.out | apply bm | apply bj | apply bn) | exact HB.out))) : w.heap.size ≤ bA)); clear HB; have HB := bI; have bz := bJ; have GW264 := bL; have bF := n3_; clear bI bJ bL n3_; clear hb hbox hg; have hcz23_0 : w22.cell? ⟨bA, 0, none⟩ = some (.string bE) := (bo bz.out 0).trans rfl; have hcz23_1 : w22.cell? ⟨bA, 1, none⟩ = some (.string bB) := (bo bz.out 1).trans rfl; have hcz23_2 : w22.cell? ⟨bA, 2, none⟩ = some (.bool true) := (bo bz.out 2).trans rfl; have hcz23_3 : w22.cell? ⟨bA, 3, none⟩ = some (.slice bG bC.length bH) := (bo bz.out 3).trans rfl; have hfz23_0 := bk bz.out 0; have hfz23_1 := bk bz.out 1; have hfz23_2 := bk bz.out 2; have hfz23_3 := bk bz.out 3) | ((with_reducible refine bv (f := 34) rfl ?_); refine goesL_ (some 5) rfl rfl Tryd.func34 (by kernel_rfl) rfl #[.string bE] rfl (by (try simp only [List.map_toArray, List.map_cons, List.map_nil]); first | done | rfl | (simp only [List.length_drop, List.length_take]; rfl)) ?_; (with_reducible refine (octets_Name.calls bE true _ A2.out).mono ?_); rintro e w24 ⟨rfl, hb⟩; refine ⟨_, rfl, ?_⟩; have bI := bu (bl (g := bA) (o := .cells #[.string bE, .string bB, .bool true, .slice bG bC.length bH] 53 (0, 0)) (by (with_reducible repeat (first | refine a4 ?_ _ | refine bh ?_ | refine a5 ?_ _)); exact bz.out) hb); have bJ := bu (below_step (by repeat (first | (with_reducible first | exact HB.out | apply bm | apply bj | apply bn | refine bi ?_ bF.out) | exact HB.out)) hb); clear bz; clear HB; have bz := bI; have HB := bJ; clear bI bJ; (try clear hb); (try clear hb2); (try clear hk); (try clear hi); have hcz25_0 : w24.cell? ⟨bA, 0, none⟩ = some (.string bE) := (bo bz.out 0).trans rfl; have hcz25_1 : w24.cell? ⟨bA, 1, none⟩ = some (.string bB) := (bo bz.out 1).trans rfl; have hcz25_2 : w24.cell? ⟨bA, 2, none⟩ = some (.bool true) := (bo bz.out 2).trans rfl; have hcz25_3 : w24.cell? ⟨bA, 3, none⟩ = some (.slice bG bC.length bH) := (bo bz.out 3).trans rfl; have hfz25_0 := bk bz.out 0; have hfz25_1 := bk bz.out 1; have hfz25_2 := bk bz.out 2; have hfz25_3 := bk bz.out 3) | ((with_reducible refine gate_dst (N := 9) rfl ?_); (try (refine gate_guard (by rfl) ?_; dsimp only)); refine Kd.R_lit Kd.string _ 9 ?hg (N := 9) ?hd (xs := ([bB] : List ByteArray)) (inner := [.string bB]) (ok := fun _ => True) (okp := fun _ => True) ?hr ?hp (fun _ hk => hk) trivial (bw _ _) (Nat.le_refl _) (by simp) ?_; (case hd => rfl); (case hg => rfl); (case hr => first | (go_simp; done) | (go_simp; rfl)); (case hp => exact (Reps.one (show Kd.M Kd.string _ _ _ bB [.string bB] from rfl) (Reps.none _ _))); intro v267 w26 ho27 hb hg_ hnew_; clear hg_ hnew_; (first | rw [← Ny266.out] at ho27 | (simp only [Int.reduceToNat] at ho27; rw [← Ny266.out] at ho27)); have bI := bu (Kd.R_lower ho27 (bs (by repeat (first | (with_reducible first | exact HB.out | apply bm | apply bj | apply bn | refine bi ?_ bF.out) | exact HB.out)))); have bJ := bu (bl (g := bA) (o := .cells #[.string bE, .string bB, .bool true, .slice bG bC.length bH] 53 (0, 0)) (by (with_reducible repeat (first | refine a4 ?_ _ | refine bh ?_ | refine a5 ?_ _)); exact bz.out) hb); have bL := bu (below_step (by repeat (first | (with_reducible first | exact HB.out | apply bm | apply bj | apply bn | refine bi ?_ bF.out) | exact HB.out)) hb); clear bz; clear HB; have bD := bI; have bz := bJ; have HB := bL; clear bI bJ bL; clear hb ho27; obtain ⟨Ao28, co28, eo28⟩ := Kd.R_slice bD.out; subst eo28) | (go_at_call 43; (with_reducible refine (vars_texts.calls _ _ y266 true _ ?bM ?bN A4.out).mono ?_); (case bM => repeat (first | exact (Kd.R_reads' bD.out).2.2 | (with_reducible refine bp ?_ _) | (with_reducible refine bq ?_ _) | (with_reducible refine Kd.C_drew ?_))); (case bN => exact (Kd.R_reads' bD.out).2.1); rintro e w29 ⟨rfl, hb⟩; have bI := bu (Kd.R_below (by (with_reducible repeat (first | apply Kd.R_alloc | apply Kd.R_drewN | apply Kd.R_drew)); exact bD.out) hb); have bJ := bu (bl (g := bA) (o := .cells #[.string bE, .string bB, .bool true, .slice bG bC.length bH] 53 (0, 0)) (by (with_reducible repeat (first | refine a4 ?_ _ | refine bh ?_ | refine a5 ?_ _)); exact bz.out) hb); have bL := bu (below_step (by repeat (first | (with_reducible first | exact HB.out | apply bm | apply bj | apply bn | refine bi ?_ bF.out) | exact HB.out)) hb); clear bD; clear bz; clear HB; have bD := bI; have bz := bJ; have HB := bL; clear bI bJ bL; (try clear hb); (try clear hb2); (try clear hk); (try clear hi); have hcz30_0 : w29.cell? ⟨bA, 0, none⟩ = some (.string bE) := (bo bz.out 0).trans rfl; have hcz30_1 : w29.cell? ⟨bA, 1, none⟩ = some (.string bB) := (bo bz.out 1).trans rfl; have hcz30_2 : w29.cell? ⟨bA, 2, none⟩ = some (.bool true) := (bo bz.out 2).trans rfl; have hcz30_3 : w29.cell? ⟨bA, 3, none⟩ = some (.slice bG bC.length bH) := (bo bz.out 3).trans rfl; have hfz30_0 := bk bz.out 0; have hfz30_1 := bk bz.out 1; have hfz30_2 := bk bz.out 2; have hfz30_3 := bk bz.out 3) | (go_at_call 43; (with_reducible refine (vars_texts.calls _ _ bC true _ ?bM ?bN A6.out).mono ?_); (case bM => repeat (first | exact (br HR0_3.out HB.out) | (with_reducible refine bp ?_ _) | (with_reducible refine bq ?_ _) | (with_reducible refine Kd.C_drew ?_))); (case bN => exact HC0_3.out); rintro e w31 ⟨rfl, hb⟩; have bI := bu (Kd.R_below (by (with_reducible repeat (first | apply Kd.R_alloc | apply Kd.R_drewN | apply Kd.R_drew)); exact bD.out) hb); have bJ := bu (bl (g := bA) (o := .cells #[.string bE, .string bB, .bool true, .slice bG bC.length bH] 53 (0, 0)) (by (with_reducible repeat (first | refine a4 ?_ _ | refine bh ?_ | refine a5 ?_ _)); exact bz.out) hb); have bL := bu (below_step (by repeat (first | (with_reducible first | exact HB.out | apply bm | apply bj | apply bn | refine bi ?_ bF.out) | exact HB.out)) hb); clear bD; clear bz; clear HB; have bD := bI; have bz := bJ; have HB := bL; clear bI bJ bL; (try clear hb); (try clear hb2); (try clear hk); (try clear hi); have hcz32_0 : w31.cell? ⟨bA, 0, none⟩ = some (.string bE) := (bo bz.out 0).trans rfl; have hcz32_1 : w31.cell? ⟨bA, 1, none⟩ = some (.string bB) := (bo bz.out 1).trans rfl; have hcz32_2 : w31.cell? ⟨bA, 2, none⟩ = some (.bool true) := (bo bz.out 2).trans rfl; have hcz32_3 : w31.cell? ⟨bA, 3, none⟩ = some (.slice bG bC.length bH) := (bo bz.out 3).trans rfl; have hfz32_0 := bk bz.out 0; have hfz32_1 := bk bz.out 1; have hfz32_2 := bk bz.out 2; have hfz32_3 := bk bz.out 3))
       go_ret
       exact ⟨by first | rfl | (simp [errW_none, errW_some] <;> rfl) | (simp [*, errW_none, errW_some] <;> rfl), by repeat (first | (with_reducible first | exact HB.out | apply bm | apply bj | apply bn | refine bi ?_ bF.out) | exact HB.out)⟩
     ·
      replace c9 := Bool.eq_false_iff.mpr c9
      subst c9
      have H1 : (some ((bC.length : Int) == 0)) = some r := by rw [if_neg (show ¬ (false = true) by decide)] at H; exact H
      clear H
      have H := H1
      clear H1
      obtain rfl := Option.some.inj H
      go_enter Tryd.func42, Tryd.ntmps42
      go_wp2_with (first | ((with_reducible refine gate_dst (N := 1) rfl ?_); (try (refine gate_guard (by rfl) ?_; dsimp only)); refine box_event ?hg (N := 1) ?hd (cs := #[.string bE, .string bB, .bool false, .slice bG bC.length bH]) (t := 53) ?hr ?_; (case hd => rfl); (case hg => rfl); (case hr => first | (go_simp; done) | (go_simp; rfl)); intro bA hg w33 hbox hb; have bI := bu (below_step (by repeat (first | (with_reducible first | exact HB.out | apply bm | apply bj | apply bn) | exact HB.out)) hb); have bJ := bu (hbox); have bL := bu ((by rw [hg]; exact (bs (by repeat (first | (with_reducible first | exact HB.out | apply bm | apply bj | apply bn) | exact HB.out))) : w.heap.size ≤ bA)); have n3_ := bu ((by rw [hg]; exact (bs (by repeat (first | (with_reducible first | exact HB.out | apply bm | apply bj | apply bn) | exact HB.out))) : w.heap.size ≤ bA)); clear HB; have HB := bI; have bz := bJ; have GW264 := bL; have bF := n3_; clear bI bJ bL n3_; clear hb hbox hg; have hcz34_0 : w33.cell? ⟨bA, 0, none⟩ = some (.string bE) := (bo bz.out 0).trans rfl; have hcz34_1 : w33.cell? ⟨bA, 1, none⟩ = some (.string bB) := (bo bz.out 1).trans rfl; have hcz34_2 : w33.cell? ⟨bA, 2, none⟩ = some (.bool false) := (bo bz.out 2).trans rfl; have hcz34_3 : w33.cell? ⟨bA, 3, none⟩ = some (.slice bG bC.length bH) := (bo bz.out 3).trans rfl; have hfz34_0 := bk bz.out 0; have hfz34_1 := bk bz.out 1; have hfz34_2 := bk bz.out 2; have hfz34_3 := bk bz.out 3) | ((with_reducible refine bv (f := 34) rfl ?_); refine goesL_ (some 5) rfl rfl Tryd.func34 (by kernel_rfl) rfl #[.string bE] rfl (by (try simp only [List.map_toArray, List.map_cons, List.map_nil]); first | done | rfl | (simp only [List.length_drop, List.length_take]; rfl)) ?_; (with_reducible refine (octets_Name.calls bE true _ A2.out).mono ?_); rintro e w35 ⟨rfl, hb⟩; refine ⟨_, rfl, ?_⟩; have bI := bu (bl (g := bA) (o := .cells #[.string bE, .string bB, .bool false, .slice bG bC.length bH] 53 (0, 0)) (by (with_reducible repeat (first | refine a4 ?_ _ | refine bh ?_ | refine a5 ?_ _)); exact bz.out) hb); have bJ := bu (below_step (by repeat (first | (with_reducible first | exact HB.out | apply bm | apply bj | apply bn | refine bi ?_ bF.out) | exact HB.out)) hb); clear bz; clear HB; have bz := bI; have HB := bJ; clear bI bJ; (try clear hb); (try clear hb2); (try clear hk); (try clear hi); have hcz36_0 : w35.cell? ⟨bA, 0, none⟩ = some (.string bE) := (bo bz.out 0).trans rfl; have hcz36_1 : w35.cell? ⟨bA, 1, none⟩ = some (.string bB) := (bo bz.out 1).trans rfl; have hcz36_2 : w35.cell? ⟨bA, 2, none⟩ = some (.bool false) := (bo bz.out 2).trans rfl; have hcz36_3 : w35.cell? ⟨bA, 3, none⟩ = some (.slice bG bC.length bH) := (bo bz.out 3).trans rfl; have hfz36_0 := bk bz.out 0; have hfz36_1 := bk bz.out 1; have hfz36_2 := bk bz.out 2; have hfz36_3 := bk bz.out 3) | ((with_reducible refine gate_dst (N := 9) rfl ?_); (try (refine gate_guard (by rfl) ?_; dsimp only)); refine Kd.R_lit Kd.string _ 9 ?hg (N := 9) ?hd (xs := ([bB] : List ByteArray)) (inner := [.string bB]) (ok := fun _ => True) (okp := fun _ => True) ?hr ?hp (fun _ hk => hk) trivial (bw _ _) (Nat.le_refl _) (by simp) ?_; (case hd => rfl); (case hg => rfl); (case hr => first | (go_simp; done) | (go_simp; rfl)); (case hp => exact (Reps.one (show Kd.M Kd.string _ _ _ bB [.string bB] from rfl) (Reps.none _ _))); intro v267 w37 ho38 hb hg_ hnew_; clear hg_ hnew_; (first | rw [← Ny266.out] at ho38 | (simp only [Int.reduceToNat] at ho38; rw [← Ny266.out] at ho38)); have bI := bu (Kd.R_lower ho38 (bs (by repeat (first | (with_reducible first | exact HB.out | apply bm | apply bj | apply bn | refine bi ?_ bF.out) | exact HB.out)))); have bJ := bu (bl (g := bA) (o := .cells #[.string bE, .string bB, .bool false, .slice bG bC.length bH] 53 (0, 0)) (by (with_reducible repeat (first | refine a4 ?_ _ | refine bh ?_ | refine a5 ?_ _)); exact bz.out) hb); have bL := bu (below_step (by repeat (first | (with_reducible first | exact HB.out | apply bm | apply bj | apply bn | refine bi ?_ bF.out) | exact HB.out)) hb); clear bz; clear HB; have bD := bI; have bz := bJ; have HB := bL; clear bI bJ bL; clear hb ho38; obtain ⟨Ao39, co39, eo39⟩ := Kd.R_slice bD.out; subst eo39) | (go_at_call 43; (with_reducible refine (vars_texts.calls _ _ y266 true _ ?bM ?bN A4.out).mono ?_); (case bM => repeat (first | exact (Kd.R_reads' bD.out).2.2 | (with_reducible refine bp ?_ _) | (with_reducible refine bq ?_ _) | (with_reducible refine Kd.C_drew ?_))); (case bN => exact (Kd.R_reads' bD.out).2.1); rintro e w40 ⟨rfl, hb⟩; have bI := bu (Kd.R_below (by (with_reducible repeat (first | apply Kd.R_alloc | apply Kd.R_drewN | apply Kd.R_drew)); exact bD.out) hb); have bJ := bu (bl (g := bA) (o := .cells #[.string bE, .string bB, .bool false, .slice bG bC.length bH] 53 (0, 0)) (by (with_reducible repeat (first | refine a4 ?_ _ | refine bh ?_ | refine a5 ?_ _)); exact bz.out) hb); have bL := bu (below_step (by repeat (first | (with_reducible first | exact HB.out | apply bm | apply bj | apply bn | refine bi ?_ bF.out) | exact HB.out)) hb); clear bD; clear bz; clear HB; have bD := bI; have bz := bJ; have HB := bL; clear bI bJ bL; (try clear hb); (try clear hb2); (try clear hk); (try clear hi); have hcz41_0 : w40.cell? ⟨bA, 0, none⟩ = some (.string bE) := (bo bz.out 0).trans rfl; have hcz41_1 : w40.cell? ⟨bA, 1, none⟩ = some (.string bB) := (bo bz.out 1).trans rfl; have hcz41_2 : w40.cell? ⟨bA, 2, none⟩ = some (.bool false) := (bo bz.out 2).trans rfl; have hcz41_3 : w40.cell? ⟨bA, 3, none⟩ = some (.slice bG bC.length bH) := (bo bz.out 3).trans rfl; have hfz41_0 := bk bz.out 0; have hfz41_1 := bk bz.out 1; have hfz41_2 := bk bz.out 2; have hfz41_3 := bk bz.out 3) | (go_at_call 43; (with_reducible refine (vars_texts.calls _ _ bC true _ ?bM ?bN A6.out).mono ?_); (case bM => repeat (first | exact (br HR0_3.out HB.out) | (with_reducible refine bp ?_ _) | (with_reducible refine bq ?_ _) | (with_reducible refine Kd.C_drew ?_))); (case bN => exact HC0_3.out); rintro e w42 ⟨rfl, hb⟩; have bI := bu (Kd.R_below (by (with_reducible repeat (first | apply Kd.R_alloc | apply Kd.R_drewN | apply Kd.R_drew)); exact bD.out) hb); have bJ := bu (bl (g := bA) (o := .cells #[.string bE, .string bB, .bool false, .slice bG bC.length bH] 53 (0, 0)) (by (with_reducible repeat (first | refine a4 ?_ _ | refine bh ?_ | refine a5 ?_ _)); exact bz.out) hb); have bL := bu (below_step (by repeat (first | (with_reducible first | exact HB.out | apply bm | apply bj | apply bn | refine bi ?_ bF.out) | exact HB.out)) hb); clear bD; clear bz; clear HB; have bD := bI; have bz := bJ; have HB := bL; clear bI bJ bL; (try clear hb); (try clear hb2); (try clear hk); (try clear hi); have hcz43_0 : w42.cell? ⟨bA, 0, none⟩ = some (.string bE) := (bo bz.out 0).trans rfl; have hcz43_1 : w42.cell? ⟨bA, 1, none⟩ = some (.string bB) := (bo bz.out 1).trans rfl; have hcz43_2 : w42.cell? ⟨bA, 2, none⟩ = some (.bool false) := (bo bz.out 2).trans rfl; have hcz43_3 : w42.cell? ⟨bA, 3, none⟩ = some (.slice bG bC.length bH) := (bo bz.out 3).trans rfl; have hfz43_0 := bk bz.out 0; have hfz43_1 := bk bz.out 1; have hfz43_2 := bk bz.out 2; have hfz43_3 := bk bz.out 3))
      go_ret
      exact ⟨by first | rfl | (simp [errW_none, errW_some] <;> rfl) | (simp [*, errW_none, errW_some] <;> rfl), by repeat (first | (with_reducible first | exact HB.out | apply bm | apply bj | apply bn | refine bi ?_ bF.out) | exact HB.out)⟩
    ·
     rw [if_neg c8] at H
     have c8b0 : decide ((bC.length : Int) ≤ 1024) = false := decide_eq_false c8
     have c8b1 : decide (bC.length ≤ 1024) = false := decide_eq_false (by omega)
     clear c8
     obtain rfl := Option.some.inj H
     go_enter Tryd.func42, Tryd.ntmps42
     go_wp2_with (first | ((with_reducible refine gate_dst (N := 1) rfl ?_); (try (refine gate_guard (by rfl) ?_; dsimp only)); refine box_event ?hg (N := 1) ?hd (cs := #[.string bE, .string bB, .bool bK, .slice bG bC.length bH]) (t := 53) ?hr ?_; (case hd => rfl); (case hg => rfl); (case hr => first | (go_simp; done) | (go_simp; rfl)); intro bA hg w44 hbox hb; have bI := bu (below_step (by repeat (first | (with_reducible first | exact HB.out | apply bm | apply bj | apply bn) | exact HB.out)) hb); have bJ := bu (hbox); have bL := bu ((by rw [hg]; exact (bs (by repeat (first | (with_reducible first | exact HB.out | apply bm | apply bj | apply bn) | exact HB.out))) : w.heap.size ≤ bA)); have n3_ := bu ((by rw [hg]; exact (bs (by repeat (first | (with_reducible first | exact HB.out | apply bm | apply bj | apply bn) | exact HB.out))) : w.heap.size ≤ bA)); clear HB; have HB := bI; have bz := bJ; have GW264 := bL; have bF := n3_; clear bI bJ bL n3_; clear hb hbox hg; have hcz45_0 : w44.cell? ⟨bA, 0, none⟩ = some (.string bE) := (bo bz.out 0).trans rfl; have hcz45_1 : w44.cell? ⟨bA, 1, none⟩ = some (.string bB) := (bo bz.out 1).trans rfl; have hcz45_2 : w44.cell? ⟨bA, 2, none⟩ = some (.bool bK) := (bo bz.out 2).trans rfl; have hcz45_3 : w44.cell? ⟨bA, 3, none⟩ = some (.slice bG bC.length bH) := (bo bz.out 3).trans rfl; have hfz45_0 := bk bz.out 0; have hfz45_1 := bk bz.out 1; have hfz45_2 := bk bz.out 2; have hfz45_3 := bk bz.out 3) | ((with_reducible refine bv (f := 34) rfl ?_); refine goesL_ (some 5) rfl rfl Tryd.func34 (by kernel_rfl) rfl #[.string bE] rfl (by (try simp only [List.map_toArray, List.map_cons, List.map_nil]); first | done | rfl | (simp only [List.length_drop, List.length_take]; rfl)) ?_; (with_reducible refine (octets_Name.calls bE true _ A2.out).mono ?_); rintro e w46 ⟨rfl, hb⟩; refine ⟨_, rfl, ?_⟩; have bI := bu (bl (g := bA) (o := .cells #[.string bE, .string bB, .bool bK, .slice bG bC.length bH] 53 (0, 0)) (by (with_reducible repeat (first | refine a4 ?_ _ | refine bh ?_ | refine a5 ?_ _)); exact bz.out) hb); have bJ := bu (below_step (by repeat (first | (with_reducible first | exact HB.out | apply bm | apply bj | apply bn | refine bi ?_ bF.out) | exact HB.out)) hb); clear bz; clear HB; have bz := bI; have HB := bJ; clear bI bJ; (try clear hb); (try clear hb2); (try clear hk); (try clear hi); have hcz47_0 : w46.cell? ⟨bA, 0, none⟩ = some (.string bE) := (bo bz.out 0).trans rfl; have hcz47_1 : w46.cell? ⟨bA, 1, none⟩ = some (.string bB) := (bo bz.out 1).trans rfl; have hcz47_2 : w46.cell? ⟨bA, 2, none⟩ = some (.bool bK) := (bo bz.out 2).trans rfl; have hcz47_3 : w46.cell? ⟨bA, 3, none⟩ = some (.slice bG bC.length bH) := (bo bz.out 3).trans rfl; have hfz47_0 := bk bz.out 0; have hfz47_1 := bk bz.out 1; have hfz47_2 := bk bz.out 2; have hfz47_3 := bk bz.out 3) | ((with_reducible refine gate_dst (N := 9) rfl ?_); (try (refine gate_guard (by rfl) ?_; dsimp only)); refine Kd.R_lit Kd.string _ 9 ?hg (N := 9) ?hd (xs := ([bB] : List ByteArray)) (inner := [.string bB]) (ok := fun _ => True) (okp := fun _ => True) ?hr ?hp (fun _ hk => hk) trivial (bw _ _) (Nat.le_refl _) (by simp) ?_; (case hd => rfl); (case hg => rfl); (case hr => first | (go_simp; done) | (go_simp; rfl)); (case hp => exact (Reps.one (show Kd.M Kd.string _ _ _ bB [.string bB] from rfl) (Reps.none _ _))); intro v267 w48 ho49 hb hg_ hnew_; clear hg_ hnew_; (first | rw [← Ny266.out] at ho49 | (simp only [Int.reduceToNat] at ho49; rw [← Ny266.out] at ho49)); have bI := bu (Kd.R_lower ho49 (bs (by repeat (first | (with_reducible first | exact HB.out | apply bm | apply bj | apply bn | refine bi ?_ bF.out) | exact HB.out)))); have bJ := bu (bl (g := bA) (o := .cells #[.string bE, .string bB, .bool bK, .slice bG bC.length bH] 53 (0, 0)) (by (with_reducible repeat (first | refine a4 ?_ _ | refine bh ?_ | refine a5 ?_ _)); exact bz.out) hb); have bL := bu (below_step (by repeat (first | (with_reducible first | exact HB.out | apply bm | apply bj | apply bn | refine bi ?_ bF.out) | exact HB.out)) hb); clear bz; clear HB; have bD := bI; have bz := bJ; have HB := bL; clear bI bJ bL; clear hb ho49; obtain ⟨Ao50, co50, eo50⟩ := Kd.R_slice bD.out; subst eo50) | (go_at_call 43; (with_reducible refine (vars_texts.calls _ _ y266 true _ ?bM ?bN A4.out).mono ?_); (case bM => repeat (first | exact (Kd.R_reads' bD.out).2.2 | (with_reducible refine bp ?_ _) | (with_reducible refine bq ?_ _) | (with_reducible refine Kd.C_drew ?_))); (case bN => exact (Kd.R_reads' bD.out).2.1); rintro e w51 ⟨rfl, hb⟩; have bI := bu (Kd.R_below (by (with_reducible repeat (first | apply Kd.R_alloc | apply Kd.R_drewN | apply Kd.R_drew)); exact bD.out) hb); have bJ := bu (bl (g := bA) (o := .cells #[.string bE, .string bB, .bool bK, .slice bG bC.length bH] 53 (0, 0)) (by (with_reducible repeat (first | refine a4 ?_ _ | refine bh ?_ | refine a5 ?_ _)); exact bz.out) hb); have bL := bu (below_step (by repeat (first | (with_reducible first | exact HB.out | apply bm | apply bj | apply bn | refine bi ?_ bF.out) | exact HB.out)) hb); clear bD; clear bz; clear HB; have bD := bI; have bz := bJ; have HB := bL; clear bI bJ bL; (try clear hb); (try clear hb2); (try clear hk); (try clear hi); have hcz52_0 : w51.cell? ⟨bA, 0, none⟩ = some (.string bE) := (bo bz.out 0).trans rfl; have hcz52_1 : w51.cell? ⟨bA, 1, none⟩ = some (.string bB) := (bo bz.out 1).trans rfl; have hcz52_2 : w51.cell? ⟨bA, 2, none⟩ = some (.bool bK) := (bo bz.out 2).trans rfl; have hcz52_3 : w51.cell? ⟨bA, 3, none⟩ = some (.slice bG bC.length bH) := (bo bz.out 3).trans rfl; have hfz52_0 := bk bz.out 0; have hfz52_1 := bk bz.out 1; have hfz52_2 := bk bz.out 2; have hfz52_3 := bk bz.out 3) | (go_at_call 43; (with_reducible refine (vars_texts.calls _ _ bC true _ ?bM ?bN A6.out).mono ?_); (case bM => repeat (first | exact (br HR0_3.out HB.out) | (with_reducible refine bp ?_ _) | (with_reducible refine bq ?_ _) | (with_reducible refine Kd.C_drew ?_))); (case bN => exact HC0_3.out); rintro e w53 ⟨rfl, hb⟩; have bI := bu (Kd.R_below (by (with_reducible repeat (first | apply Kd.R_alloc | apply Kd.R_drewN | apply Kd.R_drew)); exact bD.out) hb); have bJ := bu (bl (g := bA) (o := .cells #[.string bE, .string bB, .bool bK, .slice bG bC.length bH] 53 (0, 0)) (by (with_reducible repeat (first | refine a4 ?_ _ | refine bh ?_ | refine a5 ?_ _)); exact bz.out) hb); have bL := bu (below_step (by repeat (first | (with_reducible first | exact HB.out | apply bm | apply bj | apply bn | refine bi ?_ bF.out) | exact HB.out)) hb); clear bD; clear bz; clear HB; have bD := bI; have bz := bJ; have HB := bL; clear bI bJ bL; (try clear hb); (try clear hb2); (try clear hk); (try clear hi); have hcz54_0 : w53.cell? ⟨bA, 0, none⟩ = some (.string bE) := (bo bz.out 0).trans rfl; have hcz54_1 : w53.cell? ⟨bA, 1, none⟩ = some (.string bB) := (bo bz.out 1).trans rfl; have hcz54_2 : w53.cell? ⟨bA, 2, none⟩ = some (.bool bK) := (bo bz.out 2).trans rfl; have hcz54_3 : w53.cell? ⟨bA, 3, none⟩ = some (.slice bG bC.length bH) := (bo bz.out 3).trans rfl; have hfz54_0 := bk bz.out 0; have hfz54_1 := bk bz.out 1; have hfz54_2 := bk bz.out 2; have hfz54_3 := bk bz.out 3))
     go_ret
     exact ⟨by first | rfl | (simp [errW_none, errW_some] <;> rfl) | (simp [*, errW_none, errW_some] <;> rfl), by repeat (first | (with_reducible first | exact HB.out | apply bm | apply bj | apply bn | refine bi ?_ bF.out) | exact HB.out)⟩
   ·
    replace c7 := Bool.eq_false_iff.mpr c7
    subst c7
    have H1 : (some false) = some r := by rw [if_neg (show ¬ (false = true) by decide)] at H; exact H
    clear H
    have H := H1
    clear H1
    obtain rfl := Option.some.inj H
    go_enter Tryd.func42, Tryd.ntmps42
    go_wp2_with (first | ((with_reducible refine gate_dst (N := 1) rfl ?_); (try (refine gate_guard (by rfl) ?_; dsimp only)); refine box_event ?hg (N := 1) ?hd (cs := #[.string bE, .string bB, .bool bK, .slice bG bC.length bH]) (t := 53) ?hr ?_; (case hd => rfl); (case hg => rfl); (case hr => first | (go_simp; done) | (go_simp; rfl)); intro bA hg w55 hbox hb; have bI := bu (below_step (by repeat (first | (with_reducible first | exact HB.out | apply bm | apply bj | apply bn) | exact HB.out)) hb); have bJ := bu (hbox); have bL := bu ((by rw [hg]; exact (bs (by repeat (first | (with_reducible first | exact HB.out | apply bm | apply bj | apply bn) | exact HB.out))) : w.heap.size ≤ bA)); have n3_ := bu ((by rw [hg]; exact (bs (by repeat (first | (with_reducible first | exact HB.out | apply bm | apply bj | apply bn) | exact HB.out))) : w.heap.size ≤ bA)); clear HB; have HB := bI; have bz := bJ; have GW264 := bL; have bF := n3_; clear bI bJ bL n3_; clear hb hbox hg; have hcz56_0 : w55.cell? ⟨bA, 0, none⟩ = some (.string bE) := (bo bz.out 0).trans rfl; have hcz56_1 : w55.cell? ⟨bA, 1, none⟩ = some (.string bB) := (bo bz.out 1).trans rfl; have hcz56_2 : w55.cell? ⟨bA, 2, none⟩ = some (.bool bK) := (bo bz.out 2).trans rfl; have hcz56_3 : w55.cell? ⟨bA, 3, none⟩ = some (.slice bG bC.length bH) := (bo bz.out 3).trans rfl; have hfz56_0 := bk bz.out 0; have hfz56_1 := bk bz.out 1; have hfz56_2 := bk bz.out 2; have hfz56_3 := bk bz.out 3) | ((with_reducible refine bv (f := 34) rfl ?_); refine goesL_ (some 5) rfl rfl Tryd.func34 (by kernel_rfl) rfl #[.string bE] rfl (by (try simp only [List.map_toArray, List.map_cons, List.map_nil]); first | done | rfl | (simp only [List.length_drop, List.length_take]; rfl)) ?_; (with_reducible refine (octets_Name.calls bE true _ A2.out).mono ?_); rintro e w57 ⟨rfl, hb⟩; refine ⟨_, rfl, ?_⟩; have bI := bu (bl (g := bA) (o := .cells #[.string bE, .string bB, .bool bK, .slice bG bC.length bH] 53 (0, 0)) (by (with_reducible repeat (first | refine a4 ?_ _ | refine bh ?_ | refine a5 ?_ _)); exact bz.out) hb); have bJ := bu (below_step (by repeat (first | (with_reducible first | exact HB.out | apply bm | apply bj | apply bn | refine bi ?_ bF.out) | exact HB.out)) hb); clear bz; clear HB; have bz := bI; have HB := bJ; clear bI bJ; (try clear hb); (try clear hb2); (try clear hk); (try clear hi); have hcz58_0 : w57.cell? ⟨bA, 0, none⟩ = some (.string bE) := (bo bz.out 0).trans rfl; have hcz58_1 : w57.cell? ⟨bA, 1, none⟩ = some (.string bB) := (bo bz.out 1).trans rfl; have hcz58_2 : w57.cell? ⟨bA, 2, none⟩ = some (.bool bK) := (bo bz.out 2).trans rfl; have hcz58_3 : w57.cell? ⟨bA, 3, none⟩ = some (.slice bG bC.length bH) := (bo bz.out 3).trans rfl; have hfz58_0 := bk bz.out 0; have hfz58_1 := bk bz.out 1; have hfz58_2 := bk bz.out 2; have hfz58_3 := bk bz.out 3) | ((with_reducible refine gate_dst (N := 9) rfl ?_); (try (refine gate_guard (by rfl) ?_; dsimp only)); refine Kd.R_lit Kd.string _ 9 ?hg (N := 9) ?hd (xs := ([bB] : List ByteArray)) (inner := [.string bB]) (ok := fun _ => True) (okp := fun _ => True) ?hr ?hp (fun _ hk => hk) trivial (bw _ _) (Nat.le_refl _) (by simp) ?_; (case hd => rfl); (case hg => rfl); (case hr => first | (go_simp; done) | (go_simp; rfl)); (case hp => exact (Reps.one (show Kd.M Kd.string _ _ _ bB [.string bB] from rfl) (Reps.none _ _))); intro v267 w59 ho60 hb hg_ hnew_; clear hg_ hnew_; (first | rw [← Ny266.out] at ho60 | (simp only [Int.reduceToNat] at ho60; rw [← Ny266.out] at ho60)); have bI := bu (Kd.R_lower ho60 (bs (by repeat (first | (with_reducible first | exact HB.out | apply bm | apply bj | apply bn | refine bi ?_ bF.out) | exact HB.out)))); have bJ := bu (bl (g := bA) (o := .cells #[.string bE, .string bB, .bool bK, .slice bG bC.length bH] 53 (0, 0)) (by (with_reducible repeat (first | refine a4 ?_ _ | refine bh ?_ | refine a5 ?_ _)); exact bz.out) hb); have bL := bu (below_step (by repeat (first | (with_reducible first | exact HB.out | apply bm | apply bj | apply bn | refine bi ?_ bF.out) | exact HB.out)) hb); clear bz; clear HB; have bD := bI; have bz := bJ; have HB := bL; clear bI bJ bL; clear hb ho60; obtain ⟨Ao61, co61, eo61⟩ := Kd.R_slice bD.out; subst eo61) | (go_at_call 43; (with_reducible refine (vars_texts.calls _ _ y266 true _ ?bM ?bN A4.out).mono ?_); (case bM => repeat (first | exact (Kd.R_reads' bD.out).2.2 | (with_reducible refine bp ?_ _) | (with_reducible refine bq ?_ _) | (with_reducible refine Kd.C_drew ?_))); (case bN => exact (Kd.R_reads' bD.out).2.1); rintro e w62 ⟨rfl, hb⟩; have bI := bu (Kd.R_below (by (with_reducible repeat (first | apply Kd.R_alloc | apply Kd.R_drewN | apply Kd.R_drew)); exact bD.out) hb); have bJ := bu (bl (g := bA) (o := .cells #[.string bE, .string bB, .bool bK, .slice bG bC.length bH] 53 (0, 0)) (by (with_reducible repeat (first | refine a4 ?_ _ | refine bh ?_ | refine a5 ?_ _)); exact bz.out) hb); have bL := bu (below_step (by repeat (first | (with_reducible first | exact HB.out | apply bm | apply bj | apply bn | refine bi ?_ bF.out) | exact HB.out)) hb); clear bD; clear bz; clear HB; have bD := bI; have bz := bJ; have HB := bL; clear bI bJ bL; (try clear hb); (try clear hb2); (try clear hk); (try clear hi); have hcz63_0 : w62.cell? ⟨bA, 0, none⟩ = some (.string bE) := (bo bz.out 0).trans rfl; have hcz63_1 : w62.cell? ⟨bA, 1, none⟩ = some (.string bB) := (bo bz.out 1).trans rfl; have hcz63_2 : w62.cell? ⟨bA, 2, none⟩ = some (.bool bK) := (bo bz.out 2).trans rfl; have hcz63_3 : w62.cell? ⟨bA, 3, none⟩ = some (.slice bG bC.length bH) := (bo bz.out 3).trans rfl; have hfz63_0 := bk bz.out 0; have hfz63_1 := bk bz.out 1; have hfz63_2 := bk bz.out 2; have hfz63_3 := bk bz.out 3) | (go_at_call 43; (with_reducible refine (vars_texts.calls _ _ bC false _ ?bM ?bN A6.out).mono ?_); (case bM => repeat (first | exact (br HR0_3.out HB.out) | (with_reducible refine bp ?_ _) | (with_reducible refine bq ?_ _) | (with_reducible refine Kd.C_drew ?_))); (case bN => exact HC0_3.out); rintro e w64 ⟨rfl, hb⟩; have bI := bu (Kd.R_below (by (with_reducible repeat (first | apply Kd.R_alloc | apply Kd.R_drewN | apply Kd.R_drew)); exact bD.out) hb); have bJ := bu (bl (g := bA) (o := .cells #[.string bE, .string bB, .bool bK, .slice bG bC.length bH] 53 (0, 0)) (by (with_reducible repeat (first | refine a4 ?_ _ | refine bh ?_ | refine a5 ?_ _)); exact bz.out) hb); have bL := bu (below_step (by repeat (first | (with_reducible first | exact HB.out | apply bm | apply bj | apply bn | refine bi ?_ bF.out) | exact HB.out)) hb); clear bD; clear bz; clear HB; have bD := bI; have bz := bJ; have HB := bL; clear bI bJ bL; (try clear hb); (try clear hb2); (try clear hk); (try clear hi)))
    go_ret
    exact ⟨by first | rfl | (simp [errW_none, errW_some] <;> rfl) | (simp [*, errW_none, errW_some] <;> rfl), by repeat (first | (with_reducible first | exact HB.out | apply bm | apply bj | apply bn | refine bi ?_ bF.out) | exact HB.out)⟩
  ·
   replace c5 := Bool.eq_false_iff.mpr c5
   subst c5
   have H1 : (some false) = some r := by rw [if_neg (show ¬ (false = true) by decide)] at H; exact H
   clear H
   have H := H1
   clear H1
   obtain rfl := Option.some.inj H
   go_enter Tryd.func42, Tryd.ntmps42
   go_wp2_with (first | ((with_reducible refine gate_dst (N := 1) rfl ?_); (try (refine gate_guard (by rfl) ?_; dsimp only)); refine box_event ?hg (N := 1) ?hd (cs := #[.string bE, .string bB, .bool bK, .slice bG bC.length bH]) (t := 53) ?hr ?_; (case hd => rfl); (case hg => rfl); (case hr => first | (go_simp; done) | (go_simp; rfl)); intro bA hg w65 hbox hb; have bI := bu (below_step (by repeat (first | (with_reducible first | exact HB.out | apply bm | apply bj | apply bn) | exact HB.out)) hb); have bJ := bu (hbox); have bL := bu ((by rw [hg]; exact (bs (by repeat (first | (with_reducible first | exact HB.out | apply bm | apply bj | apply bn) | exact HB.out))) : w.heap.size ≤ bA)); have n3_ := bu ((by rw [hg]; exact (bs (by repeat (first | (with_reducible first | exact HB.out | apply bm | apply bj | apply bn) | exact HB.out))) : w.heap.size ≤ bA)); clear HB; have HB := bI; have bz := bJ; have GW264 := bL; have bF := n3_; clear bI bJ bL n3_; clear hb hbox hg; have hcz66_0 : w65.cell? ⟨bA, 0, none⟩ = some (.string bE) := (bo bz.out 0).trans rfl; have hcz66_1 : w65.cell? ⟨bA, 1, none⟩ = some (.string bB) := (bo bz.out 1).trans rfl; have hcz66_2 : w65.cell? ⟨bA, 2, none⟩ = some (.bool bK) := (bo bz.out 2).trans rfl; have hcz66_3 : w65.cell? ⟨bA, 3, none⟩ = some (.slice bG bC.length bH) := (bo bz.out 3).trans rfl; have hfz66_0 := bk bz.out 0; have hfz66_1 := bk bz.out 1; have hfz66_2 := bk bz.out 2; have hfz66_3 := bk bz.out 3) | ((with_reducible refine bv (f := 34) rfl ?_); refine goesL_ (some 5) rfl rfl Tryd.func34 (by kernel_rfl) rfl #[.string bE] rfl (by (try simp only [List.map_toArray, List.map_cons, List.map_nil]); first | done | rfl | (simp only [List.length_drop, List.length_take]; rfl)) ?_; (with_reducible refine (octets_Name.calls bE true _ A2.out).mono ?_); rintro e w67 ⟨rfl, hb⟩; refine ⟨_, rfl, ?_⟩; have bI := bu (bl (g := bA) (o := .cells #[.string bE, .string bB, .bool bK, .slice bG bC.length bH] 53 (0, 0)) (by (with_reducible repeat (first | refine a4 ?_ _ | refine bh ?_ | refine a5 ?_ _)); exact bz.out) hb); have bJ := bu (below_step (by repeat (first | (with_reducible first | exact HB.out | apply bm | apply bj | apply bn | refine bi ?_ bF.out) | exact HB.out)) hb); clear bz; clear HB; have bz := bI; have HB := bJ; clear bI bJ; (try clear hb); (try clear hb2); (try clear hk); (try clear hi); have hcz68_0 : w67.cell? ⟨bA, 0, none⟩ = some (.string bE) := (bo bz.out 0).trans rfl; have hcz68_1 : w67.cell? ⟨bA, 1, none⟩ = some (.string bB) := (bo bz.out 1).trans rfl; have hcz68_2 : w67.cell? ⟨bA, 2, none⟩ = some (.bool bK) := (bo bz.out 2).trans rfl; have hcz68_3 : w67.cell? ⟨bA, 3, none⟩ = some (.slice bG bC.length bH) := (bo bz.out 3).trans rfl; have hfz68_0 := bk bz.out 0; have hfz68_1 := bk bz.out 1; have hfz68_2 := bk bz.out 2; have hfz68_3 := bk bz.out 3) | ((with_reducible refine gate_dst (N := 9) rfl ?_); (try (refine gate_guard (by rfl) ?_; dsimp only)); refine Kd.R_lit Kd.string _ 9 ?hg (N := 9) ?hd (xs := ([bB] : List ByteArray)) (inner := [.string bB]) (ok := fun _ => True) (okp := fun _ => True) ?hr ?hp (fun _ hk => hk) trivial (bw _ _) (Nat.le_refl _) (by simp) ?_; (case hd => rfl); (case hg => rfl); (case hr => first | (go_simp; done) | (go_simp; rfl)); (case hp => exact (Reps.one (show Kd.M Kd.string _ _ _ bB [.string bB] from rfl) (Reps.none _ _))); intro v267 w69 ho70 hb hg_ hnew_; clear hg_ hnew_; (first | rw [← Ny266.out] at ho70 | (simp only [Int.reduceToNat] at ho70; rw [← Ny266.out] at ho70)); have bI := bu (Kd.R_lower ho70 (bs (by repeat (first | (with_reducible first | exact HB.out | apply bm | apply bj | apply bn | refine bi ?_ bF.out) | exact HB.out)))); have bJ := bu (bl (g := bA) (o := .cells #[.string bE, .string bB, .bool bK, .slice bG bC.length bH] 53 (0, 0)) (by (with_reducible repeat (first | refine a4 ?_ _ | refine bh ?_ | refine a5 ?_ _)); exact bz.out) hb); have bL := bu (below_step (by repeat (first | (with_reducible first | exact HB.out | apply bm | apply bj | apply bn | refine bi ?_ bF.out) | exact HB.out)) hb); clear bz; clear HB; have bD := bI; have bz := bJ; have HB := bL; clear bI bJ bL; clear hb ho70; obtain ⟨Ao71, co71, eo71⟩ := Kd.R_slice bD.out; subst eo71) | (go_at_call 43; (with_reducible refine (vars_texts.calls _ _ y266 false _ ?bM ?bN A4.out).mono ?_); (case bM => repeat (first | exact (Kd.R_reads' bD.out).2.2 | (with_reducible refine bp ?_ _) | (with_reducible refine bq ?_ _) | (with_reducible refine Kd.C_drew ?_))); (case bN => exact (Kd.R_reads' bD.out).2.1); rintro e w72 ⟨rfl, hb⟩; have bI := bu (Kd.R_below (by (with_reducible repeat (first | apply Kd.R_alloc | apply Kd.R_drewN | apply Kd.R_drew)); exact bD.out) hb); have bJ := bu (bl (g := bA) (o := .cells #[.string bE, .string bB, .bool bK, .slice bG bC.length bH] 53 (0, 0)) (by (with_reducible repeat (first | refine a4 ?_ _ | refine bh ?_ | refine a5 ?_ _)); exact bz.out) hb); have bL := bu (below_step (by repeat (first | (with_reducible first | exact HB.out | apply bm | apply bj | apply bn | refine bi ?_ bF.out) | exact HB.out)) hb); clear bD; clear bz; clear HB; have bD := bI; have bz := bJ; have HB := bL; clear bI bJ bL; (try clear hb); (try clear hb2); (try clear hk); (try clear hi)))
   go_ret
   exact ⟨by first | rfl | (simp [errW_none, errW_some] <;> rfl) | (simp [*, errW_none, errW_some] <;> rfl), by repeat (first | (with_reducible first | exact HB.out | apply bm | apply bj | apply bn | refine bi ?_ bF.out) | exact HB.out)⟩
 ·
  replace c3 := Bool.eq_false_iff.mpr c3
  subst c3
  have H1 : (some false) = some r := by rw [if_neg (show ¬ (false = true) by decide)] at H; exact H
  clear H
  have H := H1
  clear H1
  obtain rfl := Option.some.inj H
  go_enter Tryd.func42, Tryd.ntmps42
  go_wp2_with (first | ((with_reducible refine gate_dst (N := 1) rfl ?_); (try (refine gate_guard (by rfl) ?_; dsimp only)); refine box_event ?hg (N := 1) ?hd (cs := #[.string bE, .string bB, .bool bK, .slice bG bC.length bH]) (t := 53) ?hr ?_; (case hd => rfl); (case hg => rfl); (case hr => first | (go_simp; done) | (go_simp; rfl)); intro bA hg w73 hbox hb; have bI := bu (below_step (by repeat (first | (with_reducible first | exact HB.out | apply bm | apply bj | apply bn) | exact HB.out)) hb); have bJ := bu (hbox); have bL := bu ((by rw [hg]; exact (bs (by repeat (first | (with_reducible first | exact HB.out | apply bm | apply bj | apply bn) | exact HB.out))) : w.heap.size ≤ bA)); have n3_ := bu ((by rw [hg]; exact (bs (by repeat (first | (with_reducible first | exact HB.out | apply bm | apply bj | apply bn) | exact HB.out))) : w.heap.size ≤ bA)); clear HB; have HB := bI; have bz := bJ; have GW264 := bL; have bF := n3_; clear bI bJ bL n3_; clear hb hbox hg; have hcz74_0 : w73.cell? ⟨bA, 0, none⟩ = some (.string bE) := (bo bz.out 0).trans rfl; have hcz74_1 : w73.cell? ⟨bA, 1, none⟩ = some (.string bB) := (bo bz.out 1).trans rfl; have hcz74_2 : w73.cell? ⟨bA, 2, none⟩ = some (.bool bK) := (bo bz.out 2).trans rfl; have hcz74_3 : w73.cell? ⟨bA, 3, none⟩ = some (.slice bG bC.length bH) := (bo bz.out 3).trans rfl; have hfz74_0 := bk bz.out 0; have hfz74_1 := bk bz.out 1; have hfz74_2 := bk bz.out 2; have hfz74_3 := bk bz.out 3) | ((with_reducible refine bv (f := 34) rfl ?_); refine goesL_ (some 5) rfl rfl Tryd.func34 (by kernel_rfl) rfl #[.string bE] rfl (by (try simp only [List.map_toArray, List.map_cons, List.map_nil]); first | done | rfl | (simp only [List.length_drop, List.length_take]; rfl)) ?_; (with_reducible refine (octets_Name.calls bE false _ A2.out).mono ?_); rintro e w75 ⟨rfl, hb⟩; refine ⟨_, rfl, ?_⟩; have bI := bu (bl (g := bA) (o := .cells #[.string bE, .string bB, .bool bK, .slice bG bC.length bH] 53 (0, 0)) (by (with_reducible repeat (first | refine a4 ?_ _ | refine bh ?_ | refine a5 ?_ _)); exact bz.out) hb); have bJ := bu (below_step (by repeat (first | (with_reducible first | exact HB.out | apply bm | apply bj | apply bn | refine bi ?_ bF.out) | exact HB.out)) hb); clear bz; clear HB; have bz := bI; have HB := bJ; clear bI bJ; (try clear hb); (try clear hb2); (try clear hk); (try clear hi)))
  go_ret
  exact ⟨by first | rfl | (simp [errW_none, errW_some] <;> rfl) | (simp [*, errW_none, errW_some] <;> rfl), by repeat (first | (with_reducible first | exact HB.out | apply bm | apply bj | apply bn | refine bi ?_ bF.out) | exact HB.out)⟩

/-! ### vars_Check: function 17 -/
/-- a map of names, each told true or not there -/
def MapS (W : World) (b n : Nat) (f : List UInt8 → Bool) : Prop := ∃ D : DataW Unit, W.ownsMap Tryd.prog 9 (plainElem Tryd.prog 4) b n D ∧ Go.Maps.IsMap D ∧ ∀ s, D.atKey (.string s) (.lit (.bool false)) = .lit (.bool (f s))
theorem mapS_below {W W' : World} {b n : Nat} {f : List UInt8 → Bool} (h : MapS W b n f) (hb : Below W.heap.size W W') : MapS W' b n f := by
 obtain ⟨D, hown, r⟩ := h
 have hlt := hown.lt
 obtain ⟨es, clock, h1, h2⟩ := hown
 exact ⟨D, ⟨es, clock, (hb.block b hlt).trans h1, h2⟩, r⟩
theorem zero4 (w : World) : (zeroValue 4).run Tryd.prog w = .ok (.bool false) w := by kernel_rfl
set_option maxRecDepth 100000 in
theorem mapS_look {W : World} {b n : Nat} {f : List UInt8 → Bool} (h : MapS W b n f) (s : ByteArray) (hs : s.size ≤ maxLen) : (Instr.lookup 65 (.map (some b)) (.string s) false).run Tryd.prog W = .ok (.bool (f s.data.toList)) W := by
 obtain ⟨D, hown, _, hat⟩ := h
 obtain ⟨v, ps, hrun, hv⟩ := hown.lookup (Go.Maps.string_keyed Tryd.underlying9) Tryd.underlying65 (zero4 W) (plainElem_bool Tryd.underlying4 false) (Go.WideMaps.keyOf_string_mk Tryd.underlying9 hs)
 rw [hat] at hv
 rw [hrun]
 have : v = .bool (f s.data.toList) := by
  unfold plainElem at hv
  rw [Tryd.underlying4] at hv
  cases v <;> simp at hv
  rw [hv.1]
 rw [this]
theorem mapS_put {W : World} {b n : Nat} {f : List UInt8 → Bool} (h : MapS W b n f) (s : ByteArray) (hs : s.size ≤ maxLen) (hn : n < maxLen) : ∃ W', (Instr.mapUpdate 65 (.map (some b)) (.string s) (.bool true)).run Tryd.prog W = .ok () W' ∧ MapS W' b (n + 1) (fun t => f t || (s.data.toList == t)) ∧ W.grownBy W' (some b) := by
 obtain ⟨D, hown, him, hat⟩ := h
 obtain ⟨W', hrun, hown', ht⟩ := hown.store (d := .lit (.bool true)) (ps := []) (Go.Maps.string_keyed Tryd.underlying9) Tryd.underlying65 hn (Go.WideMaps.keyOf_string_mk Tryd.underlying9 hs) (plainElem_bool Tryd.underlying4 true)
 refine ⟨W', hrun, ⟨_, hown', ?_, fun t => ?_⟩, ht.grown⟩
 ·
  obtain ⟨es, rfl⟩ := him
  exact ⟨_, rfl⟩
 ·
  by_cases e : s.data.toList = t
  ·
   subst e
   rw [Go.Maps.atKey_put_same him (show Go.WideAt.IsKeyLit (.string s.data.toList) from trivial)]; simp
  ·
   rw [Go.Maps.atKey_put_other (by simpa using fun h => e h.symm), hat]
   have : (s.data.toList == t) = false := by simpa using e
   simp [this]
theorem mapS_del {W : World} {b n : Nat} {f : List UInt8 → Bool} (h : MapS W b n f) (s : ByteArray) (hs : s.size ≤ maxLen) : ∀ ty, ∃ W', (Builtin.delete_ #[65, 9] ty #[.map (some b), .string s]).run Tryd.prog W = .ok (.tuple #[]) W' ∧ MapS W' b n (fun t => f t && !(s.data.toList == t)) ∧ W.grownBy W' (some b) := by
 intro ty
 obtain ⟨D, hown, him, hat⟩ := h
 obtain ⟨W', hrun, hown', ht⟩ := hown.drop (Go.Maps.string_keyed Tryd.underlying9) Tryd.underlying65 (Go.WideMaps.keyOf_string_mk Tryd.underlying9 hs) ty
 refine ⟨W', hrun, ⟨_, hown', ?_, fun t => ?_⟩, ht.grown⟩
 ·
  obtain ⟨es, rfl⟩ := him
  exact ⟨_, rfl⟩
 ·
  by_cases e : s.data.toList = t
  ·
   subst e
   rw [Go.Maps.atKey_del_same]; simp
  ·
   rw [Go.Maps.atKey_del_other (by simpa using fun h => e h.symm), hat]
   have : (s.data.toList == t) = false := by simpa using e
   simp [this]
theorem mapS_made (w : World) : MapS (w.alloc (.map #[] 0)) w.heap.size 0 (fun _ => false) := ⟨_, World.ownsMap_made w Tryd.prog 9 (plainElem Tryd.prog 4), Go.Maps.isMap_empty, fun _ => rfl⟩
theorem mapS_eq {W : World} {b n n' : Nat} {f g : List UInt8 → Bool} (h : MapS W b n f) (hn : n ≤ n') (e : ∀ s, f s = g s) : MapS W b n' g := by
 obtain ⟨D, hown, r⟩ := h
 have : f = g := funext e
 subst this
 exact ⟨D, hown.mono hn, r⟩
theorem cell_grown {W W' : World} {b : Nat} (hg : W.grownBy W' (some b)) {a : Addr} {v : Value} (hne : a.block ≠ b) (h : W.cell? a = some v) : W'.cell? a = some v := by
 have hl : a.block < W.heap.size := World.block_lt_of_cell? W a h
 rw [World.cell?_of_block (hg.block a.block hl (by simpa using hne))]; exact h
def vok (x : S53) : Bool := XC.nameB (bytesOf x.f0) && !texts_bad x.f1 && !x.f3.any texts_bad && decide ((x.f3.length : Int) ≤ 1024) && (if x.f2 = true then x.f1.toList == [] else x.f3.length == 0)
theorem variable_some (x : S53) (h : x.f0.size ≤ maxLen) : vars_variable.f x.f0 x.f1 x.f2 x.f3 = some (vok x) := by
 unfold vars_variable.f octets_Name.f vars_texts.f vok
 rw [if_pos (by unfold maxLen at h; exact h)]
 simp only [Option.bind_some, List.any_cons, List.any_nil, Bool.or_false]
 cases XC.nameB (bytesOf x.f0) <;> cases texts_bad x.f1 <;> cases x.f3.any texts_bad <;> cases x.f2 <;> by_cases hl : (x.f3.length : Int) ≤ 1024 <;> try simp [hl]
 all_goals (first | (cases x.f1.toList <;> simp; done) | (rw [Bool.eq_iff_iff]; simp; done) | (cases x.f3 <;> rfl))
def seen (l : List S53) (s : List UInt8) : Bool := l.any fun v => v.f0.data.toList == s
def good (l : List S53) (j : Nat) : Bool := vok (l.getD j z53) && !seen (l.take j) (l.getD j z53).f0.data.toList
def restOk (l0 : List S53) (l1 : List ByteArray) (st : Int) : Bool := decide ((l0.length : Int) ≤ 1024) && decide ((l1.length : Int) ≤ 1024) && !l1.any texts_bad && decide (0 ≤ st) && decide (st ≤ 255)
def checkV (l0 : List S53) (l1 : List ByteArray) (st : Int) : Int := if (List.range l0.length).all (good l0) = true ∧ restOk l0 l1 st = true then 0 else 9
theorem seen_take (l : List S53) (k : Nat) (hk : k < l.length) (s : List UInt8) : seen (l.take (k + 1)) s = (seen (l.take k) s || ((l.getD k z53).f0.data.toList == s)) := by
 unfold seen
 rw [List.take_succ_eq_append_getElem hk, List.any_append, XC.getD_at l _ k hk]
 simp
theorem seen_mem (l : List S53) (k : Nat) (hk : k < l.length) : seen l (l.getD k z53).f0.data.toList = true := by
 unfold seen
 rw [XC.getD_at l _ k hk, List.any_eq_true]
 exact ⟨l[k], List.getElem_mem hk, by simp⟩
theorem check_bad (l0 : List S53) (l1 : List ByteArray) (st : Int) (k : Nat) (hk : k < l0.length) (h : good l0 k = false) : checkV l0 l1 st = 9 := by
 unfold checkV
 rw [if_neg]
 rintro ⟨h1, _⟩
 rw [List.all_eq_true] at h1
 have := h1 k (List.mem_range.2 hk)
 rw [h] at this
 exact absurd this (by simp)
theorem check_all (l0 : List S53) (l1 : List ByteArray) (st : Int) (h : ∀ j, j < l0.length → good l0 j = true) : checkV l0 l1 st = if restOk l0 l1 st = true then 0 else 9 := by
 unfold checkV
 have : (List.range l0.length).all (good l0) = true := by rw [List.all_eq_true]; intro j hj; exact h j (List.mem_range.1 hj)
 simp [this]
set_option maxHeartbeats 16000000 in
set_option maxRecDepth 100000 in
theorem vcheck_walk (A0 : Option Addr) (c0 : Nat) (l0 : List S53) (A1 : Option Addr) (c1 : Nat) (l1 : List ByteArray) (st : Int) (w : World) (h0 : Kd.C k53 w A0 l0.length l0) (g0 : l0.length ≤ c0) (h1 : Kd.C Kd.string w A1 l1.length l1) (g1 : l1.length ≤ c1)
  (hz : ∀ x ∈ l0, x.f0.size ≤ maxLen) :
  Calls Tryd.prog 17 #[.agg #[.slice A0 l0.length c0, .slice A1 l1.length c1, .int .i64 st]] w fun e w' => e = .returned (.int .i64 (checkV l0 l1 st)) ∧ Below w.heap.size w w' := by
 have hu25 := Tryd.underlying27
 have hu := Tryd.underlying53
 have hmm := @run_makeMap Tryd.prog
 have hbig : l0.length ≤ 9223372036854775807 := h0.2.1
 have HR := bu h0
 have HS := bu h1
 have HZ := bu hz
 clear h0 h1 hz
 go_enter Tryd.func17, Tryd.ntmps17
 go_wp2
 have b3 := XC.box3 w (.slice A0 l0.length c0) (.slice A1 l1.length c1) (.int .i64 st) 27
 have m0 := mapS_made (w.alloc (.cells #[.slice A0 l0.length c0, .slice A1 l1.length c1, .int .i64 st] 27))
 rw [show (w.alloc (.cells #[.slice A0 l0.length c0, .slice A1 l1.length c1, .int .i64 st] 27)).heap.size = w.heap.size + 1 by simp] at m0
 have B3 := bu b3
 have M0 := bu m0
 clear b3 m0
 go_loopg [5, 12] l0.length (fun gg _ s12 wr => ∃ kk : Nat, kk ≤ l0.length ∧ l0.length - kk ≤ gg ∧ s12 = .int .i64 kk ∧ Aside0 (Below w.heap.size w wr) ∧ Aside0 (MapS wr (w.heap.size + 1) kk (seen (l0.take kk))) ∧
  Aside0 (wr.cell? ⟨w.heap.size, 0, none⟩ = some (.slice A0 l0.length c0)) ∧ Aside0 (wr.cell? ⟨w.heap.size, 1, none⟩ = some (.slice A1 l1.length c1)) ∧ Aside0 (wr.cell? ⟨w.heap.size, 2, none⟩ = some (.int .i64 st)))
 case atStart =>
  refine ⟨0, Nat.zero_le _, by omega, rfl, ⟨bm (bm (bw _ _) _) _⟩, ⟨mapS_eq M0.out (Nat.le_refl _) (fun s => by simp [seen])⟩, ⟨XC.cell_on B3.out.1 _⟩, ⟨XC.cell_on B3.out.2.1 _⟩, ⟨XC.cell_on B3.out.2.2 _⟩⟩
 case round =>
  obtain ⟨kk, hkk, hg, rfl, HB, HM, D0, D1, D2⟩ := hrel
  by_cases hlt : kk < l0.length
  ·
   have hltz : (kk : Int) < (l0.length : Int) := by omega
   obtain ⟨ad, A3, c3, rfl, q0, q1, q2, q3, _, _⟩ := at_T53 (br HR.out HB.out) kk (by omega) (by omega)
   have ex : rd_T53 l0 kk = l0.getD kk z53 := by simp [rd_T53]
   rw [ex] at q0 q1 q2 q3
   simp only [Int.toNat_natCast] at q0 q1 q2 q3
   generalize hx : l0.getD kk z53 = x at q0 q1 q2 q3
   have HX := bu hx
   have hzx : x.f0.size ≤ maxLen := HZ.out x (by rw [← hx, XC.getD_at l0 _ kk hlt]; exact List.getElem_mem hlt)
   clear hx ex
   obtain ⟨W2, hput, m2, gr⟩ := mapS_put (mapS_below HM.out (bm (bw wr.heap.size wr) (.cells #[.string x.f0, .string x.f1, .bool x.f2, .slice A3 x.f3.length c3] 53))) x.f0 hzx (by unfold maxLen; omega)
   have M2 := bu m2
   have GR := bu gr
   clear m2 gr
   go_wp2
   go_roundg (l0.length - (kk + 1))
   case measure => omega
   case rel =>
    refine ⟨kk + 1, by omega, by omega, by go_num, ⟨Below.grown (bm HB.out _) GR.out (by have := HB.out.size; simp; omega) (fun k hk => by simp at hk; omega)⟩, ⟨mapS_eq M2.out (Nat.le_refl _) (fun s => by rw [seen_take l0 kk hlt, HX.out])⟩,
     ⟨cell_grown GR.out (by simp) (XC.cell_on D0.out _)⟩, ⟨cell_grown GR.out (by simp) (XC.cell_on D1.out _)⟩, ⟨cell_grown GR.out (by simp) (XC.cell_on D2.out _)⟩⟩
  ·
   have hltz : ¬ (kk : Int) < (l0.length : Int) := by omega
   obtain rfl : kk = l0.length := by omega
   have d0 := D0.out
   go_wp2
   have HM2 : Aside0 (MapS wr (w.heap.size + 1) l0.length (fun s => seen l0 s && !seen (l0.take 0) s)) := ⟨mapS_eq HM.out (Nat.le_refl _) (fun s => by rw [List.take_length]; simp [seen])⟩
   clear HM
   go_loopg [7, 23] l0.length (fun gg _ s23 wq => ∃ kk : Nat, kk ≤ l0.length ∧ l0.length - kk ≤ gg ∧ s23 = .int .i64 kk ∧ Aside0 (Below w.heap.size w wq) ∧ Aside0 (MapS wq (w.heap.size + 1) l0.length (fun s => seen l0 s && !seen (l0.take kk) s)) ∧ Aside0 (∀ j, j < kk → good l0 j = true) ∧
    Aside0 (wq.cell? ⟨w.heap.size, 0, none⟩ = some (.slice A0 l0.length c0)) ∧ Aside0 (wq.cell? ⟨w.heap.size, 1, none⟩ = some (.slice A1 l1.length c1)) ∧ Aside0 (wq.cell? ⟨w.heap.size, 2, none⟩ = some (.int .i64 st)))
   case atStart =>
    exact ⟨0, Nat.zero_le _, by omega, rfl, HB, HM2, ⟨fun j hj => absurd hj (Nat.not_lt_zero _)⟩, D0, D1, D2⟩
   case round =>
    clear HM2 D0 D1 D2 d0 HB hltz
    obtain ⟨kk, hkk, hg, rfl, HB, HM, HG, D0, D1, D2⟩ := hrel
    by_cases hlt : kk < l0.length
    ·
     have hltz : (kk : Int) < (l0.length : Int) := by omega
     obtain ⟨ad, A3, c3, rfl, q0, q1, q2, q3, hl3, hC3⟩ := at_T53 (br HR.out HB.out) kk (by omega) (by omega)
     have ex : rd_T53 l0 kk = l0.getD kk z53 := by simp [rd_T53]
     rw [ex] at q0 q1 q2 q3 hl3 hC3
     simp only [Int.toNat_natCast] at q0 q1 q2 q3
     have hsm := seen_mem l0 kk hlt
     have hgd : good l0 kk = (vok (l0.getD kk z53) && !seen (l0.take kk) (l0.getD kk z53).f0.data.toList) := rfl
     generalize hx : l0.getD kk z53 = x at q0 q1 q2 q3 hl3 hC3 hsm hgd
     have HX := bu hx
     have hzx : x.f0.size ≤ maxLen := HZ.out x (by rw [← hx, XC.getD_at l0 _ kk hlt]; exact List.getElem_mem hlt)
     have HL := bu hl3
     have HC := bu hC3
     have HV := bu (variable_some x hzx)
     have HSM := bu hsm
     have HGD := bu hgd
     clear hx ex hl3 hC3 hsm hgd
     have ARM : ∀ q : Bool, vok x = q → Calls Tryd.prog 42 #[.agg #[.string x.f0, .string x.f1, .bool x.f2, .slice A3 x.f3.length c3]] (wr.alloc (.cells #[.string x.f0, .string x.f1, .bool x.f2, .slice A3 x.f3.length c3] 53)) fun e w' => e = .returned (.bool q) ∧ Below (wr.alloc (.cells #[.string x.f0, .string x.f1, .bool x.f2, .slice A3 x.f3.length c3] 53)).heap.size (wr.alloc (.cells #[.string x.f0, .string x.f1, .bool x.f2, .slice A3 x.f3.length c3] 53)) w' :=
      fun q hq => vars_variable.calls x.f0 x.f1 x.f2 A3 c3 x.f3 q _ (bp HC.out _) HL.out (by rw [HV.out, hq])
     have HARM := bu ARM
     clear ARM
     cases hv : vok x with
     | false =>
      have HV1 := bu hv
      clear hv
      go_wp2_with (go_at_call 42; refine (HARM.out false HV1.out).mono ?_; rintro e w1 ⟨rfl, hb⟩; have HB := bu (XC.below_chain HB.out (XC.below_self hb)); clear hb)
      go_ret
      exact ⟨by rw [check_bad l0 l1 st kk hlt (by rw [HGD.out, HV1.out]; rfl)]; rfl, HB.out⟩
     | true =>
      have HV1 := bu hv
      clear hv
      cases hq : seen (l0.take kk) x.f0.data.toList with
      | true =>
       have HQ := bu hq
       clear hq
       go_wp2_with (go_at_call 42; refine (HARM.out true HV1.out).mono ?_; rintro e w1 ⟨rfl, hb⟩; have hlk := mapS_look (mapS_below (mapS_below HM.out (bm (bw wr.heap.size wr) (.cells #[.string x.f0, .string x.f1, .bool x.f2, .slice A3 x.f3.length c3] 53))) hb) x.f0 hzx; rw [HSM.out, HQ.out] at hlk; simp only [Bool.not_true, Bool.and_false] at hlk; have e0 := XC.kept_cell hb (XC.box4 wr (.string x.f0) (.string x.f1) (.bool x.f2) (.slice A3 x.f3.length c3) 53); have HB := bu (XC.below_chain HB.out (XC.below_self hb)); clear hb)
       go_ret
       exact ⟨by rw [check_bad l0 l1 st kk hlt (by rw [HGD.out, HV1.out, HQ.out]; rfl)]; rfl, HB.out⟩
      | false =>
       have HQ := bu hq
       clear hq
       go_wp2_with (go_at_call 42; refine (HARM.out true HV1.out).mono ?_; rintro e w1 ⟨rfl, hb⟩; have MW := mapS_below (mapS_below HM.out (bm (bw wr.heap.size wr) (.cells #[.string x.f0, .string x.f1, .bool x.f2, .slice A3 x.f3.length c3] 53))) hb; have hlk := mapS_look MW x.f0 hzx; rw [HSM.out, HQ.out] at hlk; simp only [Bool.not_false, Bool.and_true] at hlk; obtain ⟨W2, hdel, m2, gr⟩ := mapS_del MW x.f0 hzx 0; have M2 := bu m2; have GR := bu gr; have e0 := XC.kept_cell hb (XC.box4 wr (.string x.f0) (.string x.f1) (.bool x.f2) (.slice A3 x.f3.length c3) 53); have HB := bu (XC.below_chain HB.out (XC.below_self hb)); have D0 := bu (XC.kept_cell (XC.below_self hb) D0.out); have D1 := bu (XC.kept_cell (XC.below_self hb) D1.out); have D2 := bu (XC.kept_cell (XC.below_self hb) D2.out); clear hb m2 gr MW)
       go_roundg (l0.length - (kk + 1))
       case measure => omega
       case rel =>
        refine ⟨kk + 1, by omega, by omega, by go_num, ⟨Below.grown HB.out GR.out HB.out.size (fun k hk => by simp at hk; omega)⟩, ⟨mapS_eq M2.out (Nat.le_refl _) (fun s => by rw [seen_take l0 kk hlt, HX.out]; cases seen l0 s <;> cases seen (l0.take kk) s <;> cases (x.f0.data.toList == s) <;> rfl)⟩, ⟨fun j hj => ?_⟩,
         ⟨cell_grown GR.out (by simp) D0.out⟩, ⟨cell_grown GR.out (by simp) D1.out⟩, ⟨cell_grown GR.out (by simp) D2.out⟩⟩
        by_cases e : j = kk
        ·
         subst e; rw [HGD.out, HV1.out, HQ.out]; rfl
        ·
         exact HG.out j (by omega)
    ·
     have hltz : ¬ (kk : Int) < (l0.length : Int) := by omega
     obtain rfl : kk = l0.length := by omega
     have d0 := D0.out
     have d1 := D1.out
     have d2 := D2.out
     have HF := bu (check_all l0 l1 st HG.out)
     have TX := bu (fun q (hq : (!l1.any texts_bad) = q) => vars_texts.calls A1 c1 l1 q wr (br HS.out HB.out) g1 (by unfold vars_texts.f; rw [hq]))
     clear HG HM
     by_cases n1 : (1024 : Int) < l0.length
     ·
      have N := bu (show restOk l0 l1 st = false by unfold restOk; simp; omega)
      go_wp2
      go_ret
      exact ⟨by rw [HF.out, N.out]; rfl, HB.out⟩
     ·
      by_cases n2 : (1024 : Int) < l1.length
      ·
       have N := bu (show restOk l0 l1 st = false by unfold restOk; simp; omega)
       go_wp2
       go_ret
       exact ⟨by rw [HF.out, N.out]; rfl, HB.out⟩
      ·
       cases ht : l1.any texts_bad with
       | true =>
        have N := bu (show restOk l0 l1 st = false by unfold restOk; rw [ht]; simp)
        have HT := bu (TX.out false (by rw [ht]; rfl))
        clear ht
        go_wp2_with (go_at_call 43; refine HT.out.mono ?_; rintro e w1 ⟨rfl, hb⟩; have HB := bu (XC.below_chain HB.out hb); clear hb)
        go_ret
        exact ⟨by rw [HF.out, N.out]; rfl, HB.out⟩
       | false =>
        have HT := bu (TX.out true (by rw [ht]; rfl))
        by_cases n3 : st < 0
        ·
         have N := bu (show restOk l0 l1 st = false by unfold restOk; simp; omega)
         clear ht
         go_wp2_with (go_at_call 43; refine HT.out.mono ?_; rintro e w1 ⟨rfl, hb⟩; have d2 := XC.kept_cell hb d2; have HB := bu (XC.below_chain HB.out hb); clear hb)
         go_ret
         exact ⟨by rw [HF.out, N.out]; rfl, HB.out⟩
        ·
         by_cases n4 : (255 : Int) < st
         ·
          have N := bu (show restOk l0 l1 st = false by unfold restOk; simp; omega)
          clear ht
          go_wp2_with (go_at_call 43; refine HT.out.mono ?_; rintro e w1 ⟨rfl, hb⟩; have d2 := XC.kept_cell hb d2; have HB := bu (XC.below_chain HB.out hb); clear hb)
          go_ret
          exact ⟨by rw [HF.out, N.out]; rfl, HB.out⟩
         ·
          have N := bu (show restOk l0 l1 st = true by unfold restOk; rw [ht]; simp; omega)
          clear ht
          go_wp2_with (go_at_call 43; refine HT.out.mono ?_; rintro e w1 ⟨rfl, hb⟩; have d2 := XC.kept_cell hb d2; have HB := bu (XC.below_chain HB.out hb); clear hb)
          go_ret
          exact ⟨by rw [HF.out, N.out]; rfl, HB.out⟩
def vars_Check.f (l0_0 : List S53) (l0_1 : List ByteArray) (a0_2 : Int) : Option Int := if l0_0.all (fun x => decide (x.f0.size ≤ maxLen)) = true then some (checkV l0_0 l0_1 a0_2) else none
theorem vars_Check.calls (A0_0 : Option Addr) (c0_0 : Nat) (l0_0 : List S53) (A0_1 : Option Addr) (c0_1 : Nat) (l0_1 : List ByteArray) (a0_2 : Int) (r : Int) (w : World) (hr0_0 : Kd.C k53 w A0_0 l0_0.length l0_0) (hc0_0 : l0_0.length ≤ c0_0) (hr0_1 : Kd.C Kd.string w A0_1 l0_1.length l0_1) (hc0_1 : l0_1.length ≤ c0_1) (h : vars_Check.f l0_0 l0_1 a0_2 = some r) :
  Calls Tryd.prog 17 #[.agg #[.slice A0_0 l0_0.length c0_0, .slice A0_1 l0_1.length c0_1, .int .i64 a0_2]] w fun e w' => e = .returned (.int .i64 r) ∧ Below w.heap.size w w' := by
 unfold vars_Check.f at h
 split at h
 ·
  rename_i hall
  obtain rfl := Option.some.inj h
  rw [List.all_eq_true] at hall
  exact vcheck_walk A0_0 c0_0 l0_0 A0_1 c0_1 l0_1 a0_2 w hr0_0 hc0_0 hr0_1 hc0_1 (fun x hx => by simpa using hall x hx)
 ·
  exact absurd h (by simp)

end Go.Proofs.YtpljochiegallaaDoor.XVB
