-- WRITTEN BY xprint.py, a program of this session (over the kit's print)
import Derived.Test.YtpljochiegallaaDoorBXVBx0
import Derived.Test.YtpljochiegallaaDoorBXVBx1
namespace Go.Proofs.YtpljochiegallaaDoor.XVB
open Go.RowKit Go.Proofs.YtpljochiegallaaDoorW.PrintWords Go.Proofs.YtpljochiegallaaDoorW.PrintLast Go.Proofs.YtpljochiegallaaDoorW.PrintMore
attribute [local go_sem] max2_int min2_int max_two min_two max_three min_three max_four min_four   -- for this text's walks alone
set_option linter.unusedVariables false
set_option linter.unusedSimpArgs false

/-! ### vars_Unset: function 15 -/
abbrev DV := S53 × Option Addr × Nat
/-- a variable's four cells at a place of a row -/
def EC (W : World) (g j : Nat) (y : DV) : Prop := W.cell? ⟨g, j * 4, none⟩ = some (.string y.1.f0) ∧ W.cell? ⟨g, j * 4 + 1, none⟩ = some (.string y.1.f1) ∧ W.cell? ⟨g, j * 4 + 2, none⟩ = some (.bool y.1.f2) ∧ W.cell? ⟨g, j * 4 + 3, none⟩ = some (.slice y.2.1 y.1.f3.length y.2.2)
def Wr (W : World) (g n : Nat) : Prop := ∀ o, o < n * 4 → (∃ u, W.cell? ⟨g, o, none⟩ = some u) ∧ W.frozen? ⟨g, o, none⟩ = false
def put4 (W : World) (g i : Nat) (y : DV) : World := (((W.setCell ⟨g, i * 4, none⟩ (.string y.1.f0)).setCell ⟨g, i * 4 + 1, none⟩ (.string y.1.f1)).setCell ⟨g, i * 4 + 2, none⟩ (.bool y.1.f2)).setCell ⟨g, i * 4 + 3, none⟩ (.slice y.2.1 y.1.f3.length y.2.2)
theorem grown_refl (w : World) (g : Nat) : w.grownBy w (some g) := ⟨rfl, rfl, rfl, Nat.le_refl _, fun _ _ _ => rfl⟩
theorem grown_below {w W W2 : World} {g : Nat} (h : w.grownBy W (some g)) (hb : Below W.heap.size W W2) : w.grownBy W2 (some g) :=
 ⟨hb.os.trans h.os, hb.tape.trans h.tape, hb.output.trans h.output, Nat.le_trans h.size hb.size, fun k hk hne => (hb.block k (Nat.lt_of_lt_of_le hk h.size)).trans (h.block k hk hne)⟩
theorem grown_set {w W : World} {g : Nat} (h : w.grownBy W (some g)) (o : Nat) (v : Value) : w.grownBy (W.setCell ⟨g, o, none⟩ v) (some g) :=
 ⟨h.os, h.tape, h.output, by simpa [World.setCell] using h.size, fun k hk hne => (Below.heap_setCell W ⟨g, o, none⟩ v k (by simpa using hne)).trans (h.block k hk hne)⟩
theorem grown_put4 {w W : World} {g : Nat} (h : w.grownBy W (some g)) (i : Nat) (y : DV) : w.grownBy (put4 W g i y) (some g) := grown_set (grown_set (grown_set (grown_set h _ _) _ _) _ _) _ _
theorem ec_below {W W2 : World} {g j : Nat} {y : DV} (h : EC W g j y) (hb : Below W.heap.size W W2) : EC W2 g j y := ⟨XC.kept_cell hb h.1, XC.kept_cell hb h.2.1, XC.kept_cell hb h.2.2.1, XC.kept_cell hb h.2.2.2⟩
theorem wr_below {W W2 : World} {g n : Nat} (h : Wr W g n) (hb : Below W.heap.size W W2) : Wr W2 g n := fun o ho => by
 obtain ⟨⟨u, hu⟩, hf⟩ := h o ho
 exact ⟨⟨u, XC.kept_cell hb hu⟩, XC.kept_free hb (World.block_lt_of_cell? W _ hu) hf⟩
theorem setc {W : World} {a : Addr} {v u : Value} (h : W.cell? a = some u) : (W.setCell a v).cell? a = some v := World.cell?_setCell_same' W a v (by rw [h]; rfl)
theorem set_other {W : World} {g o o' : Nat} {v u : Value} (h : W.cell? ⟨g, o', none⟩ = some u) (hne : o' ≠ o) : (W.setCell ⟨g, o, none⟩ v).cell? ⟨g, o', none⟩ = some u := by
 rw [World.cell?_setCell_other W _ _ _ (by simp)]; exact h
theorem set_some {W : World} {g o o' : Nat} {v : Value} (h : ∃ u, W.cell? ⟨g, o', none⟩ = some u) : ∃ u, (W.setCell ⟨g, o, none⟩ v).cell? ⟨g, o', none⟩ = some u := by
 obtain ⟨u, hu⟩ := h
 exact cell?_setCell_some hu
theorem wr_set {W : World} {g n o : Nat} {v : Value} (h : Wr W g n) : Wr (W.setCell ⟨g, o, none⟩ v) g n := fun o' ho => ⟨set_some (h o' ho).1, by rw [World.frozen?_setCell]; exact (h o' ho).2⟩
theorem wr_put4 {W : World} {g n i : Nat} {y : DV} (h : Wr W g n) : Wr (put4 W g i y) g n := wr_set (wr_set (wr_set (wr_set h)))
theorem ec_put_same {W : World} {g n i : Nat} {y : DV} (h : Wr W g n) (hi : i < n) : EC (put4 W g i y) g i y := by
 have w0 := h
 have w1 := wr_set (o := i * 4) (v := .string y.1.f0) w0
 have w2 := wr_set (o := i * 4 + 1) (v := .string y.1.f1) w1
 have w3 := wr_set (o := i * 4 + 2) (v := .bool y.1.f2) w2
 obtain ⟨u0, h0⟩ := (w0 (i * 4) (by omega)).1
 obtain ⟨u1, h1⟩ := (w1 (i * 4 + 1) (by omega)).1
 obtain ⟨u2, h2⟩ := (w2 (i * 4 + 2) (by omega)).1
 obtain ⟨u3, h3⟩ := (w3 (i * 4 + 3) (by omega)).1
 refine ⟨?_, ?_, ?_, setc h3⟩
 ·
  exact set_other (set_other (set_other (setc h0) (by omega)) (by omega)) (by omega)
 ·
  exact set_other (set_other (setc h1) (by omega)) (by omega)
 ·
  exact set_other (setc h2) (by omega)
theorem ec_put_other {W : World} {g i m : Nat} {y y' : DV} (h : EC W g m y') (hne : m ≠ i) : EC (put4 W g i y) g m y' := by
 obtain ⟨h0, h1, h2, h3⟩ := h
 have t : ∀ {k : Nat} {u : Value}, k < 4 → W.cell? ⟨g, m * 4 + k, none⟩ = some u → (put4 W g i y).cell? ⟨g, m * 4 + k, none⟩ = some u := fun hk hu =>
  set_other (set_other (set_other (set_other hu (by omega)) (by omega)) (by omega)) (by omega)
 exact ⟨t (k := 0) (by omega) h0, t (k := 1) (by omega) h1, t (k := 2) (by omega) h2, t (k := 3) (by omega) h3⟩
/-- the kept ones -/
def kp (p : S53 → Bool) (ys : List DV) : List DV := ys.filter fun y => !p y.1
theorem kp_step (p : S53 → Bool) (ys : List DV) (j : Nat) (y : DV) (h : ys[j]? = some y) : kp p (ys.take (j + 1)) = kp p (ys.take j) ++ (if p y.1 = true then [] else [y]) := by
 obtain ⟨hj, he⟩ := List.getElem?_eq_some_iff.1 h
 unfold kp
 rw [List.take_succ_eq_append_getElem hj, List.filter_append, he]
 cases hp : p y.1 <;> simp [hp]
theorem kp_le (p : S53 → Bool) (ys : List DV) : (kp p ys).length ≤ ys.length := List.length_filter_le _ _
/-- what stands when j places have been looked at -/
def DelInv (w : World) (g : Nat) (p : S53 → Bool) (ys : List DV) (i j : Nat) (W : World) : Prop :=
  w.grownBy W (some g) ∧ g < W.heap.size ∧ Wr W g ys.length ∧ i = (kp p (ys.take j)).length ∧ i < j ∧ j ≤ ys.length ∧ (∀ m y, (kp p (ys.take j))[m]? = some y → EC W g m y) ∧ ∀ m y, j ≤ m → ys[m]? = some y → EC W g m y
theorem del_keep {w W W2 : World} {g : Nat} {p : S53 → Bool} {ys : List DV} {i j : Nat} {y : DV} (h : DelInv w g p ys i j W) (hy : ys[j]? = some y) (hp : p y.1 = false) (hb : Below W.heap.size W W2) : DelInv w g p ys (i + 1) (j + 1) (put4 W2 g i y) := by
 obtain ⟨h1, h2, h3, h4, h5, h6, h7, h8⟩ := h
 have hj := (List.getElem?_eq_some_iff.1 hy).1
 have e := kp_step p ys j y hy
 rw [if_neg (by simp [hp])] at e
 refine ⟨grown_put4 (grown_below h1 hb) _ _, ?_, wr_put4 (wr_below h3 hb), by rw [e]; simp [h4], by omega, by omega, fun m y' hm => ?_, fun m y' hm hy' => ec_put_other (ec_below (h8 m y' (by omega) hy') hb) (by omega)⟩
 ·
  have := hb.size
  simp [put4, World.setCell]; omega
 ·
  rw [e] at hm
  rcases Nat.lt_or_ge m i with hmi | hmi
  ·
   rw [List.getElem?_append_left (by omega)] at hm
   exact ec_put_other (ec_below (h7 m y' hm) hb) (by omega)
  ·
   rw [List.getElem?_append_right (by omega)] at hm
   have hm0 : m = i := by
    have := (List.getElem?_eq_some_iff.1 hm).1
    simp at this; omega
   subst hm0
   rw [← h4] at hm
   have : y = y' := by simpa using hm
   subst this
   exact ec_put_same (wr_below h3 hb) (by omega)
theorem del_drop {w W W2 : World} {g : Nat} {p : S53 → Bool} {ys : List DV} {i j : Nat} {y : DV} (h : DelInv w g p ys i j W) (hy : ys[j]? = some y) (hp : p y.1 = true) (hb : Below W.heap.size W W2) : DelInv w g p ys i (j + 1) W2 := by
 obtain ⟨h1, h2, h3, h4, h5, h6, h7, h8⟩ := h
 have hj := (List.getElem?_eq_some_iff.1 hy).1
 have e := kp_step p ys j y hy
 rw [if_pos hp, List.append_nil] at e
 exact ⟨grown_below h1 hb, Nat.lt_of_lt_of_le h2 hb.size, wr_below h3 hb, by rw [e]; exact h4, by omega, by omega, fun m y' hm => ec_below (h7 m y' (by rw [← e]; exact hm)) hb, fun m y' hm hy' => ec_below (h8 m y' (by omega) hy') hb⟩
theorem del_start {w W : World} {g : Nat} {p : S53 → Bool} {ys : List DV} {i : Nat} {y : DV} (h1 : w.grownBy W (some g)) (h2 : g < W.heap.size) (h3 : Wr W g ys.length) (hE : ∀ m y, ys[m]? = some y → EC W g m y) (hy : ys[i]? = some y) (hp : p y.1 = true) (hno : ∀ j y, j < i → ys[j]? = some y → p y.1 = false) : DelInv w g p ys i (i + 1) W := by
 have hi := (List.getElem?_eq_some_iff.1 hy).1
 have e0 : kp p (ys.take i) = ys.take i := by
  unfold kp
  rw [List.filter_eq_self]
  intro a ha
  obtain ⟨j, hj⟩ := List.mem_iff_getElem?.1 ha
  have hji : j < i := by have := (List.getElem?_eq_some_iff.1 hj).1; rw [List.length_take] at this; omega
  rw [List.getElem?_take_of_lt hji] at hj
  rw [hno j a hji hj]; rfl
 have e := kp_step p ys i y hy
 rw [if_pos hp, List.append_nil, e0] at e
 refine ⟨h1, h2, h3, by rw [e, List.length_take]; omega, by omega, by omega, fun m y' hm => ?_, fun m y' _ hy' => hE m y' hy'⟩
 rw [e] at hm
 have hmi : m < i := by have := (List.getElem?_eq_some_iff.1 hm).1; rw [List.length_take] at this; omega
 rw [List.getElem?_take_of_lt hmi] at hm
 exact hE m y' hm
theorem zeroVar (w : World) : (zeroValue 53).run Tryd.prog w = .ok (.agg #[.string ⟨#[]⟩, .string ⟨#[]⟩, .bool false, .slice none 0 0]) w := by kernel_rfl
theorem setCells_grown {w : World} {g : Nat} : ∀ (vs : List Value) (o : Nat) (W : World), w.grownBy W (some g) → w.grownBy (W.setCells g o vs) (some g)
 | [], _, _, h => h
 | v :: r, o, W, h => setCells_grown r (o + 1) _ (grown_set h o v)
set_option maxRecDepth 100000 in
theorem run_clear4 {W : World} {g n i c : Nat} (h : Wr W g n) (hi : i < n) (ty : TypeId) : ∃ W', (Builtin.clear_ #[22] ty #[.slice (some ⟨g, i * 4, none⟩) (n - i) c]).run Tryd.prog W = .ok (.tuple #[]) W' ∧
  (∀ m y, m < i → EC W g m y → EC W' g m y) ∧ ∀ w : World, w.grownBy W (some g) → w.grownBy W' (some g) := by
 have hlen : (Builtin.zeroCells (Value.agg #[.string ⟨#[]⟩, .string ⟨#[]⟩, .bool false, .slice none 0 0]).cells (n - i)).toList.length = (n - i) * 4 := by
  simp [Builtin.zeroCells, Value.cells]; try omega
 have hone : ∀ v ∈ (Builtin.zeroCells (Value.agg #[.string ⟨#[]⟩, .string ⟨#[]⟩, .bool false, .slice none 0 0]).cells (n - i)).toList, v.oneCell' = true := by
  intro v hv
  simp [Builtin.zeroCells, Value.cells] at hv
  obtain ⟨k, _, rfl⟩ := hv
  have : k % 4 = 0 ∨ k % 4 = 1 ∨ k % 4 = 2 ∨ k % 4 = 3 := by omega
  rcases this with e | e | e | e <;> rw [e] <;> rfl
 generalize hvs : (Builtin.zeroCells (Value.agg #[.string ⟨#[]⟩, .string ⟨#[]⟩, .bool false, .slice none 0 0]).cells (n - i)).toList = vs at hlen hone
 have hst := run_storeCells_cells (P := Tryd.prog) g (i * 4) vs 0 W (fun j hj => by obtain ⟨⟨u, hu⟩, _⟩ := h (i * 4 + j) (by omega); simp [hu]) (fun j hj => by have := (h (i * 4 + j) (by omega)).2; simpa using this) hone
 simp only [Nat.add_zero] at hst
 refine ⟨W.setCells g (i * 4) vs, ?_, fun m y hm hE => ?_, fun w hw => setCells_grown vs _ W hw⟩
 ·
  obtain ⟨k, hk⟩ : ∃ k, n - i = k + 1 := ⟨n - i - 1, by omega⟩
  rw [hk] at hvs ⊢
  simp [Builtin.clear_, run_underlying Tryd.underlying22, zeroVar, hvs, hst]
 ·
  obtain ⟨e0, e1, e2, e3⟩ := hE
  refine ⟨?_, ?_, ?_, ?_⟩ <;> rw [World.cell?_setCells_out g vs (i * 4) W _ (fun _ _ => .inl (by simp; omega))] <;> assumption
theorem del_cases (p : S53 → Bool) (ys : List DV) : (XC.idxI p (ys.map (·.1)) = -1 ∧ ∀ (j : Nat) (y : DV), ys[j]? = some y → p y.1 = false) ∨ ∃ (i : Nat) (y : DV), XC.idxI p (ys.map (·.1)) = ((i : Nat) : Int) ∧ ys[i]? = some y ∧ p y.1 = true ∧ ∀ (j : Nat) (y : DV), j < i → ys[j]? = some y → p y.1 = false := by
 unfold XC.idxI
 cases h : (ys.map (·.1)).any p
 ·
  left
  refine ⟨by simp, fun j y hj => ?_⟩
  rw [List.any_eq_false] at h
  have := h y.1 (List.mem_map.2 ⟨y, List.mem_of_getElem? hj, rfl⟩)
  simpa using this
 ·
  right
  have hl : (ys.map (·.1)).findIdx p < (ys.map (·.1)).length := by
   rw [List.findIdx_lt_length]; rw [List.any_eq_true] at h; exact h
  have hl2 : (ys.map (·.1)).findIdx p < ys.length := by simpa using hl
  have ht := List.findIdx_getElem (w := hl)
  refine ⟨(ys.map (·.1)).findIdx p, ys[(ys.map (·.1)).findIdx p], by simp, List.getElem?_eq_getElem hl2, by simpa using ht, fun j y hj hy => ?_⟩
  have := List.not_of_lt_findIdx hj
  obtain ⟨hjl, rfl⟩ := List.getElem?_eq_some_iff.1 hy
  simpa using this
theorem boxv (w : World) (v0 v1 v2 v3 : Value) (t : TypeId) : (w.alloc (.cells #[v0, v1, v2, v3] t)).cell? ⟨w.heap.size, 0, none⟩ = some v0 ∧ (w.alloc (.cells #[v0, v1, v2, v3] t)).cell? ⟨w.heap.size, 1, none⟩ = some v1 ∧ (w.alloc (.cells #[v0, v1, v2, v3] t)).cell? ⟨w.heap.size, 2, none⟩ = some v2 ∧ (w.alloc (.cells #[v0, v1, v2, v3] t)).cell? ⟨w.heap.size, 3, none⟩ = some v3 := by
 simp [World.cell?, World.alloc, -World.alloc_eq]
theorem grown_of {w W : World} {g : Nat} (h : Below w.heap.size w W) : w.grownBy W (some g) := grown_below (grown_refl w g) h
set_option maxHeartbeats 8000000 in
set_option maxRecDepth 100000 in
theorem delvar.calls (f : Nat) (caps : Array Value) (eg : ∀ args w, (callFunc f args).run Tryd.prog w = .ok (.enter f args) w) (p : S53 → Bool) (g cap : Nat) (ys : List DV) (w : World) (hg : g < w.heap.size) (hW : Wr w g ys.length) (hE : ∀ m y, ys[m]? = some y → EC w g m y) (hcap : ys.length ≤ cap) (hmax : cap ≤ 9223372036854775807)
  (hr : Kd.C k53 w (some ⟨g, 0, none⟩) (ys.map (·.1)).length (ys.map (·.1)))
  (hp : ∀ (W : World) (x : S53) (A3 : Option Addr) (c3 : Nat), w.grownBy W (some g) → Calls Tryd.prog f (#[.agg #[.string x.f0, .string x.f1, .bool x.f2, .slice A3 x.f3.length c3]] ++ caps) W fun e W' => e = .returned (.bool (p x)) ∧ Below W.heap.size W W') :
  Calls Tryd.prog 35 #[.slice (some ⟨g, 0, none⟩) ys.length cap, .func (.func f) #[] caps] w fun e w' => ∃ c, e = .returned (.slice (some ⟨g, 0, none⟩) (kp p ys).length c) ∧ (kp p ys).length ≤ c ∧ w.grownBy w' (some g) ∧ ∀ m y, (kp p ys)[m]? = some y → EC w' g m y := by
 have hu := Tryd.underlying53
 have hx := ixf_var.calls f caps eg p (some ⟨g, 0, none⟩) cap (ys.map (·.1)) w hr (fun W x A3 c3 hb _ => hp W x A3 c3 (grown_of hb))
 rw [List.length_map] at hx
 have HP := bu hp
 have HW := bu hW
 have HE := bu hE
 clear hp hr hW hE
 have hcase : (XC.idxI p (ys.map (·.1)) = -1 ∧ ∀ (j : Nat) (y : DV), ys[j]? = some y → p y.1 = false) ∨ ∃ (i : Nat) (y : DV), XC.idxI p (ys.map (·.1)) = ((i : Nat) : Int) ∧ ys[i]? = some y ∧ p y.1 = true ∧ ∀ (j : Nat) (y : DV), j < i → ys[j]? = some y → p y.1 = false := del_cases p ys
 rcases hcase with ⟨hi, hno⟩ | ⟨i, y, hi, hy, hpy, hno⟩
 ·
  rw [hi] at hx
  have hk : kp p ys = ys := by
   unfold kp
   rw [List.filter_eq_self]
   intro a ha
   obtain ⟨j, hj⟩ := List.mem_iff_getElem?.1 ha
   rw [hno j a hj]; rfl
  have HX := bu hx
  have HK := bu hk
  clear hx hno hi hk
  go_enter Tryd.func35, Tryd.ntmps35
  go_wp2_with (go_at_call 58; refine HX.out.mono ?_; rintro e w' ⟨rfl, hb⟩)
  go_ret
  exact ⟨cap, by rw [HK.out]; rfl, by rw [HK.out]; exact hcap, grown_of hb, by rw [HK.out]; exact fun m y hm => ec_below (HE.out m y hm) hb⟩
 ·
  rw [hi] at hx
  have hlt := (List.getElem?_eq_some_iff.1 hy).1
  have HX := bu hx
  have HS := bu (fun W (hb : Below w.heap.size w W) => del_start (p := p) (grown_of (g := g) hb) (Nat.lt_of_lt_of_le hg hb.size) (wr_below HW.out hb) (fun m y hm => ec_below (HE.out m y hm) hb) hy hpy hno)
  clear hx hno hi hy hpy
  go_enter Tryd.func35, Tryd.ntmps35
  go_wp2_with (go_at_call 58; refine HX.out.mono ?_; rintro e w' ⟨rfl, hb⟩; have HI := bu (HS.out _ hb); clear hb)
  go_loopg [5, 6, 7] ys.length (fun gg s5 s6 _ wr => ∃ i j : Nat, s5 = .int .i64 i ∧ s6 = .int .i64 j ∧ j ≤ ys.length ∧ ys.length - j ≤ gg ∧ i < j ∧ Aside0 (DelInv w g p ys i j wr))
  case atStart => exact ⟨i, i + 1, rfl, by go_num, by omega, by omega, by omega, HI⟩
  case round =>
   clear HI HS HX
   obtain ⟨i, j, rfl, rfl, hj, hg', hij, HI⟩ := hrel
   by_cases hlt2 : j < ys.length
   ·
    have hltz : (j : Int) < (ys.length : Int) := by omega
    have hjy : ys[j]? = some (ys[j]'hlt2) := List.getElem?_eq_getElem hlt2
    generalize ys[j]'hlt2 = y at hjy
    obtain ⟨q0, q1, q2, q3⟩ := HI.out.2.2.2.2.2.2.2 j y (Nat.le_refl _) hjy
    have dg : g < wr.heap.size := HI.out.2.1
    have dne : g ≠ wr.heap.size := Nat.ne_of_lt dg
    have hcall := HP.out (wr.alloc (.cells #[.string y.1.f0, .string y.1.f1, .bool y.1.f2, .slice y.2.1 y.1.f3.length y.2.2] 53)) y.1 y.2.1 y.2.2 (grown_below HI.out.1 (bm (bw _ _) _))
    have HY := bu hjy
    clear hjy
    cases hq : p y.1 with
    | true =>
     rw [hq] at hcall
     have HQ := bu hq
     clear hq
     go_wp2_with (go_at_fn f; refine hcall.mono ?_; rintro e w1 ⟨rfl, hb⟩; have HB := bu (XC.below_self hb); clear hb)
     go_roundg (ys.length - (j + 1))
     case measure => omega
     case rel => exact ⟨i, j + 1, rfl, by go_num, by omega, by omega, by omega, ⟨del_drop HI.out HY.out HQ.out HB.out⟩⟩
    | false =>
     rw [hq] at hcall
     have iy : i < ys.length := by omega
     have J : Aside0 (i * 4 < ys.length * 4 ∧ i * 4 + 1 < ys.length * 4 ∧ i * 4 + 2 < ys.length * 4 ∧ i * 4 + 3 < ys.length * 4) := ⟨by omega⟩
     have HQ := bu hq
     clear hq
     go_wp2_with (go_at_fn f; refine hcall.mono ?_; rintro e w1 ⟨rfl, hb⟩; have bx := boxv wr (.string y.1.f0) (.string y.1.f1) (.bool y.1.f2) (.slice y.2.1 y.1.f3.length y.2.2) 53; have b0 := XC.kept_cell hb bx.1; have b1 := XC.kept_cell hb bx.2.1; have b2 := XC.kept_cell hb bx.2.2.1; have b3 := XC.kept_cell hb bx.2.2.2; have hw := wr_below HI.out.2.2.1 (XC.below_self hb); obtain ⟨⟨u0, i0⟩, f0⟩ := hw (i * 4) J.out.1; obtain ⟨⟨u1, i1⟩, f1⟩ := hw (i * 4 + 1) J.out.2.1; obtain ⟨⟨u2, i2⟩, f2⟩ := hw (i * 4 + 2) J.out.2.2.1; obtain ⟨⟨u3, i3⟩, f3⟩ := hw (i * 4 + 3) J.out.2.2.2; have HB := bu (XC.below_self hb); clear hb bx hw)
     go_roundg (ys.length - (j + 1))
     case measure => omega
     case rel => exact ⟨i + 1, j + 1, by go_num, by go_num, by omega, by omega, by omega, ⟨del_keep HI.out HY.out HQ.out HB.out⟩⟩
   ·
    have hltz : ¬ (j : Int) < (ys.length : Int) := by omega
    obtain rfl : j = ys.length := by omega
    have iy : i < ys.length := hij
    obtain ⟨W2, hcl, hkeep, hgr⟩ := run_clear4 (c := cap - i) HI.out.2.2.1 hij 0
    have HKP := bu hkeep
    have HGR := bu hgr
    clear hkeep hgr
    go_wp2
    go_ret
    obtain ⟨h1, h2, h3, h4, h5, h6, h7, h8⟩ := HI.out
    rw [List.take_length] at h4 h7
    exact ⟨cap, by rw [← h4]; rfl, by omega, HGR.out w h1, fun m a b c hm => HKP.out m (a, b, c) (by have := (List.getElem?_eq_some_iff.1 hm).1; omega) (h7 m (a, b, c) hm)⟩
def InF (W : World) (b g : Nat) (y : DV) : Prop := y.1.f3.length ≤ y.2.2 ∧ Kd.F Kd.string W (fun k => b ≤ k ∧ k ≠ g) y.2.1 y.1.f3.length y.1.f3
set_option maxRecDepth 100000 in
theorem open_N {b : Nat} {W : World} {v : Value} {l : List S53} (h : Kd.N k53 53 W b (fun k_ => b ≤ k_) v l) (h0 : 0 < l.length) : ∃ g cap ys, v = .slice (some ⟨g, 0, none⟩) ys.length cap ∧ (ys : List DV).map (·.1) = l ∧ ys.length ≤ cap ∧ cap ≤ 9223372036854775807 ∧ b ≤ g ∧ g < W.heap.size ∧ Wr W g ys.length ∧ ∀ m y, ys[m]? = some y → EC W g m y ∧ InF W b g y := by
 obtain ⟨_, rows, hlen, ⟨_, inner, ho, hr⟩, hk⟩ := h
 rcases ho.2 with ⟨_, hn⟩ | ⟨g, cap, cur, hv, hg, hh, hle, hm, hs, hi⟩
 ·
  omega
 ·
  have hj : ∀ j : Fin l.length, ∃ y : DV, y.1 = l[j.val] ∧ EC W g j.val y ∧ InF W b g y := fun j => by
   have hx : l[j.val]? = some l[j.val] := List.getElem?_eq_getElem j.isLt
   have hc : rows[j.val]? = some (rows[j.val]'(by omega)) := List.getElem?_eq_getElem _
   have hF := hk j.val _ _ hx hc
   generalize l[j.val] = x at hx hF
   generalize rows[j.val]'(by omega) = c at hc hF
   obtain ⟨A3, c3, rfl, hl3, hF3⟩ := k53_openF hF
   have hq := hr.2 j.val _ hc
   have at_ : ∀ i u, i < 4 → [Value.string x.f0, .string x.f1, .bool x.f2, .slice A3 x.f3.length c3][i]? = some u → cur[j.val * 4 + i]? = some u := fun i u hi4 hu => XC.cur_at hi hq.1 hi4 hu
   refine ⟨(x, A3, c3), rfl, ⟨XC.cell_of hh (at_ 0 _ (by omega) rfl), XC.cell_of hh (at_ 1 _ (by omega) rfl), XC.cell_of hh (at_ 2 _ (by omega) rfl), XC.cell_of hh (at_ 3 _ (by omega) rfl)⟩, hl3, Kd.F_mono hF3 (fun k hk' => ⟨hk'.1, by have := hk'.2; rw [hv] at this; simpa [Value.ownBlock] using this⟩)⟩
  let ys : List DV := List.ofFn fun j : Fin l.length => Classical.choose (hj j)
  have hyl : ys.length = l.length := by simp [ys]
  have hat : ∀ m y, ys[m]? = some y → ∃ hm : m < l.length, y = Classical.choose (hj ⟨m, hm⟩) := fun m y hy => by
   have hml : m < l.length := by have := (List.getElem?_eq_some_iff.1 hy).1; omega
   refine ⟨hml, ?_⟩
   have : ys[m]? = some (Classical.choose (hj ⟨m, hml⟩)) := by simp [ys, hml]
   rw [this] at hy
   exact (Option.some.inj hy).symm
  refine ⟨g, cap, ys, by rw [hv, hyl, hlen], ?_, by omega, hm, hg, (Array.getElem?_eq_some_iff.1 hh).1, fun o ho' => ?_, fun m y hy => ?_⟩
  ·
   apply List.ext_getElem
   ·
    simp [hyl]
   ·
    intro m h1 h2
    simp only [List.getElem_map]
    have hym : ys[m]? = some (ys[m]'(by simpa using h1)) := List.getElem?_eq_getElem _
    obtain ⟨hml, e⟩ := hat m _ hym
    rw [e]; exact (Classical.choose_spec (hj ⟨m, hml⟩)).1
  ·
   have hoc : o < cur.size := by rw [hs]; have : rows.length ≤ cap := hle; show o < cap * 4; omega
   exact ⟨⟨_, XC.cell_of hh (Array.getElem?_eq_getElem hoc)⟩, XC.unfrozen_of hh o⟩
  ·
   obtain ⟨hml, rfl⟩ := hat m y hy
   exact (Classical.choose_spec (hj ⟨m, hml⟩)).2
/-- a row of such cells, read -/
theorem ec_C {W : World} {b g : Nat} {ys : List DV} (hE : ∀ m y, ys[m]? = some y → EC W g m y ∧ InF W b g y) (hl : ys.length ≤ 9223372036854775807) : Kd.C k53 W (some ⟨g, 0, none⟩) (ys.map (·.1)).length (ys.map (·.1)) := by
 refine ⟨rfl, by simpa using hl, fun _ => ⟨_, rfl, fun j x hj => ?_⟩⟩
 rw [List.getElem?_map] at hj
 obtain ⟨y, hy, rfl⟩ := Option.map_eq_some_iff.1 hj
 obtain ⟨⟨e0, e1, e2, e3⟩, hl3, hF⟩ := hE j y hy
 refine ⟨[.string y.1.f0, .string y.1.f1, .bool y.1.f2, .slice y.2.1 y.1.f3.length y.2.2], rfl, k53_mk W y.1 hl3 (Kd.F_now hF), fun i u hu => ?_⟩
 have hz : k53.sz = 4 := rfl
 have hi : i < 4 := by have := (List.getElem?_eq_some_iff.1 hu).1; simpa using this
 rw [hz, Addr.add_lit]
 match i, hi, hu with
 | 0, _, hu => simp at hu; subst hu; simpa using e0
 | 1, _, hu => simp at hu; subst hu; simpa using e1
 | 2, _, hu => simp at hu; subst hu; simpa using e2
 | 3, _, hu => simp at hu; subst hu; simpa using e3
set_option maxHeartbeats 1000000 in
theorem unset1.calls (b : Nat) (x : S53) (A3 : Option Addr) (c3 : Nat) (nm : ByteArray) (W : World) (hc : W.cell? ⟨b, 0, none⟩ = some (.string nm)) :
  Calls Tryd.prog 36 #[.agg #[.string x.f0, .string x.f1, .bool x.f2, .slice A3 x.f3.length c3], .pointer (some ⟨b, 0, none⟩)] W fun e W' => e = .returned (.bool (x.f0.toList == nm.toList)) ∧ Below W.heap.size W W' := by
 have hu := Tryd.underlying53
 have hb := World.block_lt_of_cell? W _ hc
 have hlt : b ≠ W.heap.size := by simp at hb; omega
 go_enter Tryd.func36, Tryd.ntmps36
 go_wp2
 go_ret
 exact ⟨rfl, bm (bw _ _) _⟩
theorem inF_grown {w W : World} {b g : Nat} {y : DV} (h : InF w b g y) (hg : w.grownBy W (some g)) : InF W b g y := ⟨h.1, Kd.F_grown h.2 hg (fun k hk => by simpa using hk.2)⟩
theorem inF_set {W : World} {b g n o : Nat} {v : Value} {y : DV} (h : InF W b g y) (hn : n < b) : InF (W.setCell ⟨n, o, none⟩ v) b g y := ⟨h.1, Kd.F_far h.2 (fun k hk => by have := hk.1; simp; omega) v⟩
theorem ec_set {W : World} {g n o j : Nat} {v : Value} {y : DV} (h : EC W g j y) (hn : n ≠ g) : EC (W.setCell ⟨n, o, none⟩ v) g j y := by
 obtain ⟨h0, h1, h2, h3⟩ := h
 refine ⟨?_, ?_, ?_, ?_⟩ <;> rw [World.cell?_setCell_other W _ _ _ (by simp [hn])] <;> assumption
theorem three (w : World) (a0 a1 a2 b0 r0 r1 r2 : Value) (ta tb tr : TypeId) : let W3 := ((w.alloc (.cells #[a0, a1, a2] ta)).alloc (.cells #[b0] tb)).alloc (.cells #[r0, r1, r2] tr)
  W3.cell? ⟨w.heap.size, 0, none⟩ = some a0 ∧ W3.cell? ⟨w.heap.size, 1, none⟩ = some a1 ∧ W3.cell? ⟨w.heap.size, 2, none⟩ = some a2 ∧ W3.cell? ⟨w.heap.size + 1, 0, none⟩ = some b0 ∧ W3.cell? ⟨w.heap.size + 2, 0, none⟩ = some r0 ∧ W3.cell? ⟨w.heap.size + 2, 1, none⟩ = some r1 ∧ W3.cell? ⟨w.heap.size + 2, 2, none⟩ = some r2 ∧
  W3.frozen? ⟨w.heap.size, 0, none⟩ = false ∧ W3.frozen? ⟨w.heap.size, 1, none⟩ = false ∧ W3.frozen? ⟨w.heap.size + 2, 0, none⟩ = false ∧ W3.frozen? ⟨w.heap.size + 2, 1, none⟩ = false ∧ W3.frozen? ⟨w.heap.size + 2, 2, none⟩ = false ∧ W3.heap.size = w.heap.size + 3 := by
 intro W3
 have e0 : W3.heap[w.heap.size]? = some (.cells #[a0, a1, a2] ta (0, 0)) := by
  show (((w.heap.push _).push _).push _)[w.heap.size]? = _
  rw [Array.getElem?_push, if_neg (by simp; omega), Array.getElem?_push, if_neg (by simp), Array.getElem?_push, if_pos rfl]
 have e1 : W3.heap[w.heap.size + 1]? = some (.cells #[b0] tb (0, 0)) := by
  show (((w.heap.push _).push _).push _)[w.heap.size + 1]? = _
  rw [Array.getElem?_push, if_neg (by simp), Array.getElem?_push, if_pos (by simp)]
 have e2 : W3.heap[w.heap.size + 2]? = some (.cells #[r0, r1, r2] tr (0, 0)) := by
  show (((w.heap.push _).push _).push _)[w.heap.size + 2]? = _
  rw [Array.getElem?_push, if_pos (by simp)]
 exact ⟨XC.cell_of e0 rfl, XC.cell_of e0 rfl, XC.cell_of e0 rfl, XC.cell_of e1 rfl, XC.cell_of e2 rfl, XC.cell_of e2 rfl, XC.cell_of e2 rfl, XC.unfrozen_of e0 _, XC.unfrozen_of e0 _, XC.unfrozen_of e2 _, XC.unfrozen_of e2 _, XC.unfrozen_of e2 _, by show (((w.heap.push _).push _).push _).size = _; simp⟩
theorem kp_map (p : S53 → Bool) (ys : List DV) : (kp p ys).map (·.1) = (ys.map (·.1)).filter (fun x => !p x) := by
 unfold kp
 rw [List.filter_map]; rfl
theorem three_heap (w : World) (S N : Obj) (r0 r1 r2 : Value) (tr : TypeId) : (((w.alloc S).alloc N).alloc (.cells #[r0, r1, r2] tr)).heap[w.heap.size + 2]? = some (.cells #[r0, r1, r2] tr (0, 0)) := by
 show (((w.heap.push _).push _).push _)[w.heap.size + 2]? = _
 rw [Array.getElem?_push, if_pos (by simp)]
theorem box_put {W : World} {n t : Nat} {r0 r1 r2 a0 a1 a2 : Value} (h : W.heap[n]? = some (.cells #[r0, r1, r2] t (0, 0))) : (((W.setCell ⟨n, 0, none⟩ a0).setCell ⟨n, 1, none⟩ a1).setCell ⟨n, 2, none⟩ a2).heap[n]? = some (.cells #[a0, a1, a2] t (0, 0)) := by
 have := XC.setCell_heap (XC.setCell_heap (XC.setCell_heap h 0 a0) 1 a1) 2 a2
 simpa using this
theorem keepc {W W2 : World} {n m o o' : Nat} {v u : Value} (h : W.cell? ⟨m, o', none⟩ = some u) (hne : ¬ (n = m ∧ o = o')) (hb : Below (W.setCell ⟨n, o, none⟩ v).heap.size (W.setCell ⟨n, o, none⟩ v) W2) : W2.cell? ⟨m, o', none⟩ = some u :=
 XC.kept_cell hb (by rw [World.cell?_setCell_other W _ _ _ (by simpa using hne)]; exact h)
theorem keepf {W W2 : World} {n m o o' : Nat} {v : Value} (h : W.frozen? ⟨m, o', none⟩ = false) (hlt : m < W.heap.size) (hb : Below (W.setCell ⟨n, o, none⟩ v).heap.size (W.setCell ⟨n, o, none⟩ v) W2) : W2.frozen? ⟨m, o', none⟩ = false :=
 XC.kept_free hb (by simpa [World.setCell] using hlt) (by rw [World.frozen?_setCell]; exact h)
theorem grown_free {W W' : World} {b : Nat} (hg : W.grownBy W' (some b)) {a : Addr} (hl : a.block < W.heap.size) (hne : a.block ≠ b) (h : W.frozen? a = false) : W'.frozen? a = false := by
 rw [World.frozen?_of_block (hg.block a.block hl (by simpa using hne))]; exact h
theorem r_keep {W W2 : World} {n o b : Nat} {v u : Value} {xs : List ByteArray} (h : Kd.string.R 9 W b (fun _ => True) u xs) (hn : n < b) (hb : Below (W.setCell ⟨n, o, none⟩ v).heap.size (W.setCell ⟨n, o, none⟩ v) W2) : Kd.string.R 9 W2 b (fun k => b ≤ k ∧ k < W.heap.size) u xs :=
 Kd.R_step (Kd.R_mono (Kd.R_bound h) (ok' := fun k => b ≤ k ∧ k < W.heap.size) (fun k hk => ⟨hk.2.1, hk.2.2.1⟩)) (fun k hk hlt => (hb.block k (by simpa [World.setCell] using hlt)).trans (Below.heap_setCell W ⟨n, o, none⟩ v k (by have := hk.1; simp; omega)))
theorem r_grown {W W2 : World} {g b N : Nat} {u : Value} {xs : List ByteArray} (h : Kd.string.R 9 W b (fun k => b ≤ k ∧ k < N) u xs) (hN : N ≤ g) (hg : W.grownBy W2 (some g)) : Kd.string.R 9 W2 b (fun k => b ≤ k ∧ k < N) u xs :=
 Kd.R_step h (fun k hk hlt => hg.block k hlt (by have := hk.2; simp; omega))
theorem r_set {W : World} {n o b N : Nat} {u v : Value} {xs : List ByteArray} (h : Kd.string.R 9 W b (fun k => b ≤ k ∧ k < N) u xs) (hn : n < b) : Kd.string.R 9 (W.setCell ⟨n, o, none⟩ v) b (fun k => b ≤ k ∧ k < N) u xs :=
 Kd.R_step h (fun k hk _ => Below.heap_setCell W ⟨n, o, none⟩ v k (by have := hk.1; simp; omega))
theorem sz_set (W : World) (a : Addr) (v : Value) : (W.setCell a v).heap.size = W.heap.size := by simp [World.setCell]
def unset (l : List S53) (name : ByteArray) : List S53 := l.filter fun x => !(x.f0.toList == name.toList)
theorem cell_at_block {W W' : World} {g : Nat} (h : W'.heap[g]? = W.heap[g]?) (o : Nat) : W'.cell? ⟨g, o, none⟩ = W.cell? ⟨g, o, none⟩ := by simp [World.cell?, h]
/-- a row of cells of the call's own: what it leads to lies from lo on -/
theorem ec_F {W : World} {b g lo : Nat} {ys : List DV} (hE : ∀ m y, ys[m]? = some y → EC W g m y ∧ InF W b g y) (hg : lo ≤ g) (hb : lo ≤ b) (hl : ys.length ≤ 9223372036854775807) : Kd.F k53 W (fun k => lo ≤ k) (some ⟨g, 0, none⟩) (ys.map (·.1)).length (ys.map (·.1)) := fun W' hW => ec_C (b := b) (fun m y hm => by
 obtain ⟨⟨h0, h1, h2, h3⟩, h4⟩ := hE m y hm
 have hgl : g < W.heap.size := World.block_lt_of_cell? W _ h0
 have he := hW g hg hgl
 refine ⟨⟨?_, ?_, ?_, ?_⟩, ⟨h4.1, Kd.F_step h4.2 (fun k hk hlt => hW k (by have := hk.1; omega) hlt)⟩⟩ <;> rw [cell_at_block he] <;> assumption) hl
def UPost (l0 : List S53) (l1 : List ByteArray) (st : Int) (nm : ByteArray) (w : World) (e : Ending) (w' : World) : Prop := ∃ v0 v1 : Value, e = .returned (.agg #[v0, v1, .int .i64 st]) ∧ Kd.V k53 53 w' w.heap.size (fun k_ => w.heap.size ≤ k_) v0 (unset l0 nm) ∧ Kd.V Kd.string 9 w' w.heap.size (fun k_ => w.heap.size ≤ k_) v1 l1 ∧ Below w.heap.size w w'
set_option maxHeartbeats 8000000 in
set_option maxRecDepth 100000 in
theorem Unset_st (A0 : Option Addr) (c0 : Nat) (l0 : List S53) (A1 : Option Addr) (c1 : Nat) (l1 : List ByteArray) (st : Int) (nm : ByteArray) (w : World) (h0 : Kd.C k53 w A0 l0.length l0) (g0 : l0.length ≤ c0) (h1 : Kd.C Kd.string w A1 l1.length l1) (g1 : l1.length ≤ c1)
  (ho : vars_own.f l0 = some l0) (hc : slices_Clone_string_string.f l1 = some l1) (hpos : 0 < l0.length) :
  Calls Tryd.prog 15 #[.agg #[.slice A0 l0.length c0, .slice A1 l1.length c1, .int .i64 st], .string nm] w fun e w' => UPost l0 l1 st nm w e w' := by
 have hu27 := Tryd.underlying27
 have H0 := bu h0
 have H1 := bu h1
 have HO := bu ho
 have HC := bu hc
 clear h0 h1 ho hc
 have e1 : ∀ args w, (callFunc 36 args).run Tryd.prog w = .ok (.enter 36 args) w := XC.enters Tryd.func36 (by kernel_rfl) rfl
 go_enter Tryd.func15, Tryd.ntmps15
 have H3 := bu (three w (.slice A0 l0.length c0) (.slice A1 l1.length c1) (.int .i64 st) (.string nm) (.slice none 0 0) (.slice none 0 0) (.int .i64 0) 27 9 27)
 go_wp2_with (first
  | (go_at_call 22; refine (slices_Clone_string_string.calls A1 c1 l1 l1 _ (bp (bp (bp H1.out _) _) _) g1 HC.out).mono ?_; rintro e w1 ⟨v1, rfl, hv1, hb⟩; obtain ⟨B1, d1, rfl⟩ := Kd.R_slice hv1; have E2 := bu ((hb.block (w.heap.size + 2) (Nat.lt_of_lt_of_eq (Nat.add_lt_add_left (by decide) _) H3.out.2.2.2.2.2.2.2.2.2.2.2.2.symm)).trans (three_heap w _ _ _ _ _ _)); obtain ⟨x0, x1, x2, x3, x4, x5, x6, y0, y1, y2, y3, y4, x7⟩ := H3.out; have x0 := XC.kept_cell hb x0; have x1 := XC.kept_cell hb x1; have x2 := XC.kept_cell hb x2; have X3 := bu (XC.kept_cell hb x3); have X4 := bu (XC.kept_cell hb x4); have X5 := bu (XC.kept_cell hb x5); have X6 := bu (XC.kept_cell hb x6); have hn1 : w.heap.size + 3 ≤ w1.heap.size := Nat.le_trans (Nat.le_of_eq x7.symm) hb.size; have lts : w.heap.size < w1.heap.size := Nat.lt_of_lt_of_le (Nat.lt_add_of_pos_right (by decide)) hn1; have ltr : w.heap.size + 2 < w1.heap.size := Nat.lt_of_lt_of_le (Nat.add_lt_add_left (by decide) _) hn1; have ltn : w.heap.size + 1 < w1.heap.size := Nat.lt_of_lt_of_le (Nat.add_lt_add_left (by decide) _) hn1; have Y0 := bu (XC.kept_free hb (Nat.lt_of_lt_of_eq (Nat.lt_add_of_pos_right (by decide)) x7.symm) y0); have f1 := XC.kept_free hb (Nat.lt_of_lt_of_eq (Nat.lt_add_of_pos_right (by decide)) x7.symm) y1; have Y2 := bu (XC.kept_free hb (Nat.lt_of_lt_of_eq (Nat.add_lt_add_left (by decide) _) x7.symm) y2); have Y3 := bu (XC.kept_free hb (Nat.lt_of_lt_of_eq (Nat.add_lt_add_left (by decide) _) x7.symm) y3); have Y4 := bu (XC.kept_free hb (Nat.lt_of_lt_of_eq (Nat.add_lt_add_left (by decide) _) x7.symm) y4); have HV1 := bu (Kd.R_lower hv1 (Nat.le_of_eq x7.symm) (base' := w.heap.size + 3)); have HBw := bu (XC.below_chain (bm (bm (bm (bw _ _) _) _) _ : Below w.heap.size w _) hb); clear x3 x4 x5 x6 hb y0 y1 y2 y3 y4 x7)
  | (go_at_call 21; refine (vars_own.calls A0 c0 l0 l0 _ (br H0.out (HBw.out.setCell (Nat.le_refl _) _)) g0 HO.out).mono ?_; rintro e w2 ⟨v0, rfl, hv0, hb2⟩; obtain ⟨g, cap, ys, rfl, hys, hcap, hmax, hbg, hgl, hW, hE⟩ := open_N hv0 hpos; have HYS := bu hys; have hbg' : w1.heap.size ≤ g := Nat.le_trans (Nat.le_of_eq (sz_set _ _ _).symm) hbg; have ng0 : w.heap.size ≠ g := Nat.ne_of_lt (Nat.lt_of_lt_of_le lts hbg'); have ng1 : w.heap.size + 1 ≠ g := Nat.ne_of_lt (Nat.lt_of_lt_of_le ltn hbg'); have ng2 : w.heap.size + 2 ≠ g := Nat.ne_of_lt (Nat.lt_of_lt_of_le ltr hbg'); have x0 := keepc x0 (by simp) hb2; have x1 := XC.kept_cell hb2 (setc x1); have x2 := keepc x2 (by simp) hb2; have X3 := bu (keepc X3.out (by simp) hb2); have X4 := bu (keepc X4.out (by simp) hb2); have X5 := bu (keepc X5.out (by simp) hb2); have X6 := bu (keepc X6.out (by simp) hb2); have Y0 := bu (keepf Y0.out lts hb2); have Y2 := bu (keepf Y2.out ltr hb2); have Y3 := bu (keepf Y3.out ltr hb2); have Y4 := bu (keepf Y4.out ltr hb2); have E2 := bu ((hb2.block (w.heap.size + 2) (Nat.lt_of_lt_of_eq ltr (sz_set _ _ _).symm)).trans ((Below.heap_setCell w1 ⟨w.heap.size, 1, none⟩ _ (w.heap.size + 2) (by simp)).trans E2.out)); have HV1 := bu (r_keep HV1.out (Nat.lt_add_of_pos_right (by decide)) hb2); have HBw := bu (XC.below_chain (HBw.out.setCell (Nat.le_refl _) _) hb2); have HE := bu hE; have HW := bu hW; clear hv0 hE hW hys hb2)
  | (go_at_call 35; refine (delvar.calls 36 #[.pointer (some ⟨w.heap.size + 1, 0, none⟩)] e1 (fun x => x.f0.toList == nm.toList) g cap ys w2 hgl HW.out (fun m y hm => (HE.out m y hm).1) hcap hmax (ec_C HE.out (Nat.le_trans hcap hmax)) (fun W x A3 c3 hgW => unset1.calls (w.heap.size + 1) x A3 c3 nm W (hgW.cell X3.out (by simpa using ng1)))).mono ?_; rintro e w3 ⟨c', rfl, hle', hgr, hE'⟩; have f0 := grown_free hgr (World.block_lt_of_cell? _ _ x0) ng0 Y0.out; have f5 := grown_free hgr (World.block_lt_of_cell? _ _ X4.out) ng2 Y2.out; have f6 := grown_free hgr (World.block_lt_of_cell? _ _ X5.out) ng2 Y3.out; have f7 := grown_free hgr (World.block_lt_of_cell? _ _ X6.out) ng2 Y4.out; have x1 := hgr.cell x1 (by simpa using ng0); have x2 := hgr.cell x2 (by simpa using ng0); have x0 := hgr.cell x0 (by simpa using ng0); have x4 := hgr.cell X4.out (by simpa using ng2); have x5 := hgr.cell X5.out (by simpa using ng2); have x6 := hgr.cell X6.out (by simpa using ng2); have E2 := bu ((hgr.block (w.heap.size + 2) (World.block_lt_of_cell? _ _ X4.out) (by simpa using ng2)).trans E2.out); have HX := bu hE')
  | fail)
 have EH := box_put (a0 := .slice (some ⟨g, 0, none⟩) (kp (fun x => x.f0.toList == nm.toList) ys).length c') (a1 := .slice B1 l1.length d1) (a2 := .int .i64 st) ((Below.heap_setCell w3 ⟨w.heap.size, 0, none⟩ (.slice (some ⟨g, 0, none⟩) (kp (fun x => x.f0.toList == nm.toList) ys).length c') (w.heap.size + 2) (by simp)).trans E2.out)
 refine bodyPost_ret (results_cell_row rfl _ _ (w.heap.size + 1 + 1) 27 #[.slice (some ⟨g, 0, none⟩) (kp (fun x => x.f0.toList == nm.toList) ys).length c', .slice B1 l1.length d1, .int .i64 st] (0, 0) _ rfl EH hu27 rfl (by kernel_rfl)) rfl ?_
 have hu0 : unset l0 nm = (kp (fun x => x.f0.toList == nm.toList) ys).map (·.1) := by unfold unset; rw [kp_map, HYS.out]
 have hul : (unset l0 nm).length = (kp (fun x => x.f0.toList == nm.toList) ys).length := by rw [hu0, List.length_map]
 have hb0 : w.heap.size < (w1.setCell ⟨w.heap.size, 1, none⟩ (.slice B1 l1.length d1)).heap.size := by rw [sz_set]; exact lts
 have hb2 : w.heap.size + 1 + 1 < (w1.setCell ⟨w.heap.size, 1, none⟩ (.slice B1 l1.length d1)).heap.size := by rw [sz_set]; exact ltr
 have hr := r_set (o := 2) (v := .int .i64 st) (r_set (o := 1) (v := .slice B1 l1.length d1) (r_set (o := 0) (v := .slice (some ⟨g, 0, none⟩) (kp (fun x => x.f0.toList == nm.toList) ys).length c') (r_set (o := 0) (v := .slice (some ⟨g, 0, none⟩) (kp (fun x => x.f0.toList == nm.toList) ys).length c') (r_grown HV1.out hbg' hgr) (n := w.heap.size) (by omega)) (n := w.heap.size + 1 + 1) (by omega)) (n := w.heap.size + 1 + 1) (by omega)) (n := w.heap.size + 1 + 1) (by omega)
 have hq := Kd.R_reads' hr
 refine ⟨_, _, rfl, ?_, ⟨B1, d1, rfl, hq.2.1, Kd.F_mono (Kd.R_F hr) (fun k hk => by have := hk.1; omega)⟩, ?_⟩
 ·
  have hF := ec_F (lo := w.heap.size) (b := (w1.setCell ⟨w.heap.size, 1, none⟩ (.slice B1 l1.length d1)).heap.size) (ys := kp (fun x => x.f0.toList == nm.toList) ys) (g := g) (W := (((w3.setCell ⟨w.heap.size, 0, none⟩ (.slice (some ⟨g, 0, none⟩) (kp (fun x => x.f0.toList == nm.toList) ys).length c')).setCell ⟨w.heap.size + 1 + 1, 0, none⟩ (.slice (some ⟨g, 0, none⟩) (kp (fun x => x.f0.toList == nm.toList) ys).length c')).setCell ⟨w.heap.size + 1 + 1, 1, none⟩ (.slice B1 l1.length d1)).setCell ⟨w.heap.size + 1 + 1, 2, none⟩ (.int .i64 st)) (fun m y hm => ⟨ec_set (ec_set (ec_set (ec_set (HX.out m y hm) ng0) ng2) ng2) ng2, by
   obtain ⟨m2, hm2⟩ := List.mem_iff_getElem?.1 ((List.mem_filter.1 (List.mem_of_getElem? hm)).1)
   exact inF_set (inF_set (inF_set (inF_set (inF_grown (HE.out m2 y hm2).2 hgr) hb0) hb2) hb2) hb2⟩) (by omega) (by omega) (by have := kp_le (fun x => x.f0.toList == nm.toList) ys; omega)
  rw [← hu0] at hF
  exact ⟨some ⟨g, 0, none⟩, c', by rw [hul], by rw [hul]; exact hle', hF⟩
 ·
  exact Below.setCell (Below.setCell (Below.setCell (Below.setCell (Below.grown HBw.out hgr HBw.out.size (fun k hk => by simp at hk; omega)) (Nat.le_refl _) _) (show w.heap.size ≤ w.heap.size + 1 + 1 by omega) _) (show w.heap.size ≤ w.heap.size + 1 + 1 by omega) _) (show w.heap.size ≤ w.heap.size + 1 + 1 by omega) _
set_option maxHeartbeats 4000000 in
set_option maxRecDepth 100000 in
theorem del_nil (f : Nat) (caps : Array Value) (eg : ∀ args w, (callFunc f args).run Tryd.prog w = .ok (.enter f args) w) (A : Option Addr) (l : List S53) (hl : l = []) (c : Nat) (w : World) :
  Calls Tryd.prog 35 #[.slice A l.length c, .func (.func f) #[] caps] w fun e w' => e = .returned (.slice A l.length c) ∧ Below w.heap.size w w' := by
 subst hl
 have hx := ixf_var.calls f caps eg (fun _ => false) A c [] w ⟨rfl, by simp, fun h => absurd h (by simp)⟩ (fun _ _ _ _ _ h => absurd h (by simp))
 have hi : XC.idxI (fun _ : S53 => false) [] = -1 := by simp [XC.idxI]
 rw [hi] at hx
 have HX := bu hx
 clear hx hi
 go_enter Tryd.func35, Tryd.ntmps35
 go_wp2_with (go_at_call 58; refine HX.out.mono ?_; rintro e w' ⟨rfl, hb⟩)
 go_ret
 exact ⟨rfl, hb⟩
set_option maxHeartbeats 8000000 in
set_option maxRecDepth 100000 in
theorem Unset_nil (A0 : Option Addr) (c0 : Nat) (l0 : List S53) (hl : l0 = []) (A1 : Option Addr) (c1 : Nat) (l1 : List ByteArray) (st : Int) (nm : ByteArray) (w : World) (h0 : Kd.C k53 w A0 l0.length l0) (g0 : l0.length ≤ c0) (h1 : Kd.C Kd.string w A1 l1.length l1) (g1 : l1.length ≤ c1)
  (ho : vars_own.f l0 = some l0) (hc : slices_Clone_string_string.f l1 = some l1) :
  Calls Tryd.prog 15 #[.agg #[.slice A0 l0.length c0, .slice A1 l1.length c1, .int .i64 st], .string nm] w fun e w' => UPost l0 l1 st nm w e w' := by
 have hu27 := Tryd.underlying27
 have H0 := bu h0
 have H1 := bu h1
 have HO := bu ho
 have HC := bu hc
 have HL := bu hl
 clear h0 h1 ho hc hl
 have e1 : ∀ args w, (callFunc 36 args).run Tryd.prog w = .ok (.enter 36 args) w := XC.enters Tryd.func36 (by kernel_rfl) rfl
 go_enter Tryd.func15, Tryd.ntmps15
 have H3 := bu (three w (.slice A0 l0.length c0) (.slice A1 l1.length c1) (.int .i64 st) (.string nm) (.slice none 0 0) (.slice none 0 0) (.int .i64 0) 27 9 27)
 go_wp2_with (first
  | (go_at_call 22; refine (slices_Clone_string_string.calls A1 c1 l1 l1 _ (bp (bp (bp H1.out _) _) _) g1 HC.out).mono ?_; rintro e w1 ⟨v1, rfl, hv1, hb⟩; obtain ⟨B1, d1, rfl⟩ := Kd.R_slice hv1; have E2 := bu ((hb.block (w.heap.size + 2) (by have h := H3.out.2.2.2.2.2.2.2.2.2.2.2.2; rw [h]; exact Nat.lt_succ_self _)).trans (three_heap w _ _ _ _ _ _)); obtain ⟨x0, x1, x2, x3, x4, x5, x6, y0, y1, y2, y3, y4, x7⟩ := H3.out; have x0 := XC.kept_cell hb x0; have x1 := XC.kept_cell hb x1; have x2 := XC.kept_cell hb x2; have X3 := bu (XC.kept_cell hb x3); have X4 := bu (XC.kept_cell hb x4); have X5 := bu (XC.kept_cell hb x5); have X6 := bu (XC.kept_cell hb x6); have hn1 : w.heap.size + 3 ≤ w1.heap.size := Nat.le_trans (Nat.le_of_eq x7.symm) hb.size; have lts : w.heap.size < w1.heap.size := Nat.lt_of_lt_of_le (Nat.lt_add_of_pos_right (by decide)) hn1; have ltr : w.heap.size + 2 < w1.heap.size := Nat.lt_of_lt_of_le (Nat.add_lt_add_left (by decide) _) hn1; have ltn : w.heap.size + 1 < w1.heap.size := Nat.lt_of_lt_of_le (Nat.add_lt_add_left (by decide) _) hn1; have Y0 := bu (XC.kept_free hb (Nat.lt_of_lt_of_eq (Nat.lt_add_of_pos_right (by decide)) x7.symm) y0); have f1 := XC.kept_free hb (Nat.lt_of_lt_of_eq (Nat.lt_add_of_pos_right (by decide)) x7.symm) y1; have Y2 := bu (XC.kept_free hb (Nat.lt_of_lt_of_eq (Nat.add_lt_add_left (by decide) _) x7.symm) y2); have Y3 := bu (XC.kept_free hb (Nat.lt_of_lt_of_eq (Nat.add_lt_add_left (by decide) _) x7.symm) y3); have Y4 := bu (XC.kept_free hb (Nat.lt_of_lt_of_eq (Nat.add_lt_add_left (by decide) _) x7.symm) y4); have HV1 := bu (Kd.R_lower hv1 (Nat.le_of_eq x7.symm) (base' := w.heap.size + 3)); have HBw := bu (XC.below_chain (bm (bm (bm (bw _ _) _) _) _ : Below w.heap.size w _) hb); clear x3 x4 x5 x6 hb y0 y1 y2 y3 y4 x7)
  | (go_at_call 21; refine (vars_own.calls A0 c0 l0 l0 _ (br H0.out (HBw.out.setCell (Nat.le_refl _) _)) g0 HO.out).mono ?_; rintro e w2 ⟨v0, rfl, hv0, hb2⟩; obtain ⟨B0, d0, rfl⟩ := Kd.N_slice hv0; have hd0 := (Kd.N_reads' hv0).2.1; have x0 := keepc x0 (by simp) hb2; have x1 := XC.kept_cell hb2 (setc x1); have x2 := keepc x2 (by simp) hb2; have X3 := bu (keepc X3.out (by simp) hb2); have X4 := bu (keepc X4.out (by simp) hb2); have X5 := bu (keepc X5.out (by simp) hb2); have X6 := bu (keepc X6.out (by simp) hb2); have Y0 := bu (keepf Y0.out lts hb2); have Y2 := bu (keepf Y2.out ltr hb2); have Y3 := bu (keepf Y3.out ltr hb2); have Y4 := bu (keepf Y4.out ltr hb2); have E2 := bu ((hb2.block (w.heap.size + 2) (Nat.lt_of_lt_of_eq ltr (sz_set _ _ _).symm)).trans ((Below.heap_setCell w1 ⟨w.heap.size, 1, none⟩ _ (w.heap.size + 2) (by simp)).trans E2.out)); have HV1 := bu (r_keep HV1.out (Nat.lt_add_of_pos_right (by decide)) hb2); have HBw := bu (XC.below_chain (HBw.out.setCell (Nat.le_refl _) _) hb2); clear hv0 hb2)
  | (go_at_call 35; refine (del_nil 36 #[.pointer (some ⟨w.heap.size + 1, 0, none⟩)] e1 B0 l0 HL.out d0 w2).mono ?_; rintro e w3 ⟨rfl, hb3⟩; have f0 := XC.kept_free hb3 (World.block_lt_of_cell? _ _ x0) Y0.out; have f5 := XC.kept_free hb3 (World.block_lt_of_cell? _ _ X4.out) Y2.out; have f6 := XC.kept_free hb3 (World.block_lt_of_cell? _ _ X5.out) Y3.out; have f7 := XC.kept_free hb3 (World.block_lt_of_cell? _ _ X6.out) Y4.out; have x1 := XC.kept_cell hb3 x1; have x2 := XC.kept_cell hb3 x2; have E2 := bu ((hb3.block (w.heap.size + 2) (World.block_lt_of_cell? _ _ X4.out)).trans E2.out); have x0 := XC.kept_cell hb3 x0; have x4 := XC.kept_cell hb3 X4.out; have x5 := XC.kept_cell hb3 X5.out; have x6 := XC.kept_cell hb3 X6.out; have HB3 := bu hb3; clear hb3)
  | fail)
 have EH := box_put (a0 := .slice B0 l0.length d0) (a1 := .slice B1 l1.length d1) (a2 := .int .i64 st) ((Below.heap_setCell w3 ⟨w.heap.size, 0, none⟩ (.slice B0 l0.length d0) (w.heap.size + 2) (by simp)).trans E2.out)
 refine bodyPost_ret (results_cell_row rfl _ _ (w.heap.size + 1 + 1) 27 #[.slice B0 l0.length d0, .slice B1 l1.length d1, .int .i64 st] (0, 0) _ rfl EH hu27 rfl (by kernel_rfl)) rfl ?_
 have hr := r_set (o := 2) (v := .int .i64 st) (r_set (o := 1) (v := .slice B1 l1.length d1) (r_set (o := 0) (v := .slice B0 l0.length d0) (r_set (o := 0) (v := .slice B0 l0.length d0) (Kd.R_step HV1.out (w1 := w3) (fun k hk hlt => HB3.out.block k hlt)) (n := w.heap.size) (by omega)) (n := w.heap.size + 1 + 1) (by omega)) (n := w.heap.size + 1 + 1) (by omega)) (n := w.heap.size + 1 + 1) (by omega)
 have hq := Kd.R_reads' hr
 obtain rfl := HL.out
 have hun : unset [] nm = [] := rfl
 refine ⟨_, _, rfl, ?_, ⟨B1, d1, rfl, hq.2.1, Kd.F_mono (Kd.R_F hr) (fun k hk => by have := hk.1; omega)⟩, ?_⟩
 ·
  rw [hun]; exact ⟨B0, d0, rfl, hd0, fun _ _ => ⟨rfl, by simp, fun h => absurd h (by simp)⟩⟩
 exact Below.setCell (Below.setCell (Below.setCell (Below.setCell (XC.below_chain HBw.out HB3.out) (Nat.le_refl _) _) (show w.heap.size ≤ w.heap.size + 1 + 1 by omega) _) (show w.heap.size ≤ w.heap.size + 1 + 1 by omega) _) (show w.heap.size ≤ w.heap.size + 1 + 1 by omega) _
theorem Unset_any (A0 : Option Addr) (c0 : Nat) (l0 : List S53) (A1 : Option Addr) (c1 : Nat) (l1 : List ByteArray) (st : Int) (nm : ByteArray) (w : World) (h0 : Kd.C k53 w A0 l0.length l0) (g0 : l0.length ≤ c0) (h1 : Kd.C Kd.string w A1 l1.length l1) (g1 : l1.length ≤ c1)
  (ho : vars_own.f l0 = some l0) (hc : slices_Clone_string_string.f l1 = some l1) :
  Calls Tryd.prog 15 #[.agg #[.slice A0 l0.length c0, .slice A1 l1.length c1, .int .i64 st], .string nm] w fun e w' => UPost l0 l1 st nm w e w' := by
 rcases Nat.eq_zero_or_pos l0.length with h | h
 ·
  exact Unset_nil A0 c0 l0 (List.length_eq_zero_iff.1 h) A1 c1 l1 st nm w h0 g0 h1 g1 ho hc
 ·
  exact Unset_st A0 c0 l0 A1 c1 l1 st nm w h0 g0 h1 g1 ho hc h
def vars_Unset.f (l0 : List S53) (l1 : List ByteArray) (st : Int) (nm : ByteArray) : Option (List S53 × List ByteArray × Int) := (vars_own.f l0).bind fun a => (slices_Clone_string_string.f l1).bind fun b => some (unset a nm, b, st)
theorem own_same {l r : List S53} (h : vars_own.f l = some r) : r = l := by
 unfold vars_own.f at h
 split at h
 ·
  split at h
  ·
   exact (Option.some.inj h).symm
  ·
   exact absurd h (by simp)
 ·
  exact absurd h (by simp)
theorem clone_same {l r : List ByteArray} (h : slices_Clone_string_string.f l = some r) : r = l := by
 unfold slices_Clone_string_string.f at h
 split at h
 ·
  rw [List.nil_append] at h; exact (Option.some.inj h).symm
 ·
  exact absurd h (by simp)
theorem vars_Unset.calls (A0 : Option Addr) (c0 : Nat) (l0 : List S53) (A1 : Option Addr) (c1 : Nat) (l1 : List ByteArray) (st : Int) (nm : ByteArray) (r1 : List S53) (r2 : List ByteArray) (r3 : Int) (w : World) (h0 : Kd.C k53 w A0 l0.length l0) (g0 : l0.length ≤ c0) (h1 : Kd.C Kd.string w A1 l1.length l1) (g1 : l1.length ≤ c1) (h : vars_Unset.f l0 l1 st nm = some (r1, r2, r3)) :
  Calls Tryd.prog 15 #[.agg #[.slice A0 l0.length c0, .slice A1 l1.length c1, .int .i64 st], .string nm] w fun e w' => ∃ v0_ v1_ : Value, e = .returned (.agg #[v0_, v1_, .int .i64 r3]) ∧ Kd.V k53 53 w' w.heap.size (fun k_ => w.heap.size ≤ k_) v0_ r1 ∧ Kd.V Kd.string 9 w' w.heap.size (fun k_ => w.heap.size ≤ k_) v1_ r2 ∧ Below w.heap.size w w' := by
 unfold vars_Unset.f at h
 obtain ⟨a, ha, h'⟩ := Option.bind_eq_some_iff.mp h
 obtain ⟨b, hb, h''⟩ := Option.bind_eq_some_iff.mp h'
 have ea := own_same ha
 have eb := clone_same hb
 clear h h'
 have e := Option.some.inj h''
 have e1 : unset a nm = r1 := congrArg Prod.fst e
 have e2 : b = r2 := congrArg (fun x => x.2.1) e
 have e3 : st = r3 := congrArg (fun x => x.2.2) e
 clear e h''
 subst ea eb e1 e3
 rw [← e2]
 exact Unset_any A0 c0 _ A1 c1 _ st nm w h0 g0 h1 g1 ha hb

/-! ### cowrieref20_find: function 37 -/
def cowrieref20_find.l0 : Nat → ByteArray → Int → List (S53) → List ByteArray → Int → Option (Int)
  | 0, _, _, _, _, _ => none
  | k + 1, x1, x5, x228000, x228001, x228002 => if x5 < (x228000.length : Int) then (if 0 ≤ x5 then (if ((rd_T53 x228000 x5).f0).toList = x1.toList then (some x5) else (cowrieref20_find.l0 k x1 (wrap64 (x5 + 1)) x228000 x228001 x228002)) else (none)) else (some (-1))
def cowrieref20_find.f (k : Nat) (l0_0 : List (S53)) (l0_1 : List ByteArray) (a0_2 : Int) (a1 : ByteArray) : Option (Int) := cowrieref20_find.l0 k a1 0 l0_0 l0_1 a0_2
set_option maxHeartbeats 8000000 in
set_option maxRecDepth 100000 in
theorem cowrieref20_find.calls (k : Nat) (A0_0 : Option Addr) (c0_0 : Nat) (bA : List (S53)) (A0_1 : Option Addr) (c0_1 : Nat) (bD : List ByteArray) (a0_2 : Int) (a1 : ByteArray) (r : Int) (w : World) (hr0_0 : Kd.C k53 w A0_0 bA.length bA) (hc0_0 : bA.length ≤ c0_0) (hr0_1 : Kd.C Kd.string w A0_1 bD.length bD) (hc0_1 : bD.length ≤ c0_1) (h : cowrieref20_find.f k bA bD a0_2 a1 = some r) :
  Calls Tryd.prog 37 #[.agg #[.slice A0_0 bA.length c0_0, .slice A0_1 bD.length c0_1, .int .i64 a0_2], .string a1] w fun e w' => e = .returned (.int .i64 r) ∧ Below w.heap.size w w' := by
 have hu25 := Tryd.underlying25
 have HR0_0 := bu hr0_0
 have HC0_0 := bu hc0_0
 clear hr0_0 hc0_0
 have HR0_1 := bu hr0_1
 have HC0_1 := bu hc0_1
 clear hr0_1 hc0_1
 have HB := bu (bw w.heap.size w)
 have H : (cowrieref20_find.l0 k a1 0 bA bD a0_2) = some r := h
 clear h
 have H' := bu H
 clear H
 go_enter Tryd.func37, Tryd.ntmps37
 go_wp2_with (first | ((with_reducible refine gate_dst (N := 2) rfl ?_); refine box_event ?hg (N := 2) ?hd (cs := #[.slice A0_0 bA.length c0_0, .slice A0_1 bD.length c0_1, .int .i64 a0_2]) (t := 25) ?hr ?_; (case hd => rfl); (case hg => rfl); (case hr => first | (go_simp; done) | (go_simp; rfl)); intro bC hg w3 hbox hb; have n0_ := bu (below_step (by repeat (first | (with_reducible first | exact HB.out | apply bm | apply bj | apply bn) | exact HB.out)) hb); have n1_ := bu (hbox); have n2_ := bu ((by rw [hg]; exact (bs (by repeat (first | (with_reducible first | exact HB.out | apply bm | apply bj | apply bn) | exact HB.out))) : w.heap.size ≤ bC)); have n3_ := bu ((by rw [hg]; exact (bs (by repeat (first | (with_reducible first | exact HB.out | apply bm | apply bj | apply bn) | exact HB.out))) : w.heap.size ≤ bC)); clear HB; have HB := n0_; have bz := n1_; have GW227 := n2_; have GE227 := n3_; clear n0_ n1_ n2_ n3_; clear hb hbox hg))
 go_loopg [5] k (fun kq v5 w' => ∃ (bB : Int), v5 = .int .i64 bB ∧ Aside0 (cowrieref20_find.l0 kq a1 bB bA bD a0_2 = some r) ∧ Aside0 (kq ≤ k) ∧ Aside0 (w'.heap[bC]? = some (.cells #[(.slice A0_0 bA.length c0_0), (.slice A0_1 bD.length c0_1), .int .i64 a0_2] 25 (0, 0))) ∧ Aside0 (Below w.heap.size w w'))
 case atStart => exact ⟨(0), (by first | rfl | (simp; done) | (simp [*]; done)), H', ⟨Nat.le_refl _⟩, ⟨by (with_reducible repeat (first | refine a4 ?_ _ | refine bh ?_ | refine a5 ?_ _)); exact bz.out⟩, ⟨by repeat (first | (with_reducible first | exact HB.out | apply bm | apply bj | apply bn | refine bi ?_ GE227.out) | exact HB.out)⟩⟩
 case round =>
  clear H'
  try clear p2
  try clear c3
  obtain ⟨bB, rfl, HA, HK1, bz, HB⟩ := hrel
  cases gk with
  | zero => exact absurd HA.out (by simp [cowrieref20_find.l0])
  | succ k1 =>
   have H := HA.out
   clear HA
   simp only [cowrieref20_find.l0] at H
   by_cases c4 : bB < (bA.length : Int)
   ·
    rw [if_pos c4] at H
    have c4b0 : decide (bB < (bA.length : Int)) = true := decide_eq_true c4
    clear c4
    by_cases c5 : 0 ≤ bB
    ·
     rw [if_pos c5] at H
     have c5b0 : decide (0 ≤ bB) = true := decide_eq_true c5
     clear c5
     by_cases c6 : ((rd_T53 bA bB).f0).toList = a1.toList
     ·
      rw [if_pos c6] at H
      have c6b0 : (((rd_T53 bA bB).f0).toList == a1.toList) = true := beq_iff_eq.mpr c6
      have c6b1 : (((rd_T53 bA bB).f0).toList != a1.toList) = false := bne_eq_false_iff_eq.mpr c6
      clear c6
      obtain rfl := Option.some.inj H
      have hcz7_0 : wr.cell? ⟨bC, 0, none⟩ = some (.slice A0_0 bA.length c0_0) := (bo bz.out 0).trans rfl
      have hcz7_1 : wr.cell? ⟨bC, 1, none⟩ = some (.slice A0_1 bD.length c0_1) := (bo bz.out 1).trans rfl
      have hcz7_2 : wr.cell? ⟨bC, 2, none⟩ = some (.int .i64 a0_2) := (bo bz.out 2).trans rfl
      have hfz7_0 := bk bz.out 0
      have hfz7_1 := bk bz.out 1
      have hfz7_2 := bk bz.out 2
      have p228 : 0 ≤ (bB : Int) := of_decide_eq_true (by first | (with_reducible assumption) | assumption)
      have q228 : bB < (bA.length : Int) := of_decide_eq_true (by first | (with_reducible assumption) | assumption)
      obtain ⟨ad228, A228_3, c228_3, e228, hx228_0, hx228_1, hx228_2, hx228_3, hl228_3, hi228_3⟩ := at_T53 HR0_0.out bB p228 q228
      cases e228
      replace hx228_0 := (HB.out.cell (World.block_lt_of_cell? w _ hx228_0)).trans hx228_0
      replace hx228_1 := (HB.out.cell (World.block_lt_of_cell? w _ hx228_1)).trans hx228_1
      replace hx228_2 := (HB.out.cell (World.block_lt_of_cell? w _ hx228_2)).trans hx228_2
      replace hx228_3 := (HB.out.cell (World.block_lt_of_cell? w _ hx228_3)).trans hx228_3
      have HR228_3 := bu hi228_3
      have HC228_3 := bu hl228_3
      clear hi228_3 hl228_3
      replace p228 := eq_true p228
      replace q228 := eq_true q228
      go_wp2
      go_ret
      exact ⟨by first | rfl | (simp [errW_none, errW_some] <;> rfl) | (simp [*, errW_none, errW_some] <;> rfl), by repeat (first | (with_reducible first | exact HB.out | apply bm | apply bj | apply bn | refine bi ?_ GE227.out) | exact HB.out)⟩
     ·
      rw [if_neg c6] at H
      have c6b0 : (((rd_T53 bA bB).f0).toList == a1.toList) = false := beq_eq_false_iff_ne.mpr c6
      have c6b1 : (((rd_T53 bA bB).f0).toList != a1.toList) = true := bne_iff_ne.mpr c6
      have H' := bu H
      clear H
      have hcz8_0 : wr.cell? ⟨bC, 0, none⟩ = some (.slice A0_0 bA.length c0_0) := (bo bz.out 0).trans rfl
      have hcz8_1 : wr.cell? ⟨bC, 1, none⟩ = some (.slice A0_1 bD.length c0_1) := (bo bz.out 1).trans rfl
      have hcz8_2 : wr.cell? ⟨bC, 2, none⟩ = some (.int .i64 a0_2) := (bo bz.out 2).trans rfl
      have hfz8_0 := bk bz.out 0
      have hfz8_1 := bk bz.out 1
      have hfz8_2 := bk bz.out 2
      have p228 : 0 ≤ (bB : Int) := of_decide_eq_true (by first | (with_reducible assumption) | assumption)
      have q228 : bB < (bA.length : Int) := of_decide_eq_true (by first | (with_reducible assumption) | assumption)
      obtain ⟨ad228, A228_3, c228_3, e228, hx228_0, hx228_1, hx228_2, hx228_3, hl228_3, hi228_3⟩ := at_T53 HR0_0.out bB p228 q228
      cases e228
      replace hx228_0 := (HB.out.cell (World.block_lt_of_cell? w _ hx228_0)).trans hx228_0
      replace hx228_1 := (HB.out.cell (World.block_lt_of_cell? w _ hx228_1)).trans hx228_1
      replace hx228_2 := (HB.out.cell (World.block_lt_of_cell? w _ hx228_2)).trans hx228_2
      replace hx228_3 := (HB.out.cell (World.block_lt_of_cell? w _ hx228_3)).trans hx228_3
      have HR228_3 := bu hi228_3
      have HC228_3 := bu hl228_3
      clear hi228_3 hl228_3
      replace p228 := eq_true p228
      replace q228 := eq_true q228
      go_wp2
      go_roundg k1
      case measure => have := HK1.out; omega
      case rel => exact ⟨(wrap64 (bB + 1)), (by first | rfl | (simp; done) | (simp [*]; done)), H', ⟨by have := HK1.out; omega⟩, ⟨by (with_reducible repeat (first | refine a4 ?_ _ | refine bh ?_ | refine a5 ?_ _)); exact bz.out⟩, ⟨by repeat (first | (with_reducible first | exact HB.out | apply bm | apply bj | apply bn | refine bi ?_ GE227.out) | exact HB.out)⟩⟩
    ·
     rw [if_neg c5] at H
     exact absurd H (by simp)
   ·
    rw [if_neg c4] at H
    have c4b0 : decide (bB < (bA.length : Int)) = false := decide_eq_false c4
    clear c4
    obtain rfl := Option.some.inj H
    have hcz9_0 : wr.cell? ⟨bC, 0, none⟩ = some (.slice A0_0 bA.length c0_0) := (bo bz.out 0).trans rfl
    have hcz9_1 : wr.cell? ⟨bC, 1, none⟩ = some (.slice A0_1 bD.length c0_1) := (bo bz.out 1).trans rfl
    have hcz9_2 : wr.cell? ⟨bC, 2, none⟩ = some (.int .i64 a0_2) := (bo bz.out 2).trans rfl
    have hfz9_0 := bk bz.out 0
    have hfz9_1 := bk bz.out 1
    have hfz9_2 := bk bz.out 2
    go_wp2
    go_ret
    exact ⟨by first | rfl | (simp [errW_none, errW_some] <;> rfl) | (simp [*, errW_none, errW_some] <;> rfl), by repeat (first | (with_reducible first | exact HB.out | apply bm | apply bj | apply bn | refine bi ?_ GE227.out) | exact HB.out)⟩

end Go.Proofs.YtpljochiegallaaDoor.XVB
