/-
Plain words that the hand-proved contracts share: lists searched by a predicate; octets of names. Conditions: none.
-/
import Derived.Below
import Derived.WalkKit
import Derived.Lib.ConvBytes
import Derived.Shelf.Abstract
import Derived.Lib.Bytealg
import Derived.Test.YtpljochiegallaaDoorBWWords
import Derived.Test.YtpljochiegallaaDoorBWApart
import Derived.Test.YtpljochiegallaaDoorBWN
import Derived.Test.YtpljochiegallaaDoorBWMore
set_option linter.unusedVariables false
set_option linter.unusedSimpArgs false
namespace Go.Proofs.XC
open Go.RowKit Go.Proofs.YtpljochiegallaaDoorW.PrintWords

/-- the first place where p holds, or -1 -/
def idxI {α : Type} (p : α → Bool) (l : List α) : Int := if l.any p then (l.findIdx p : Int) else -1
theorem getD_at {α : Type} (l : List α) (z : α) (k : Nat) (hk : k < l.length) : l.getD k z = l[k] := by simp [List.getD_eq_getElem?_getD, hk]
theorem idxI_hit {α : Type} (p : α → Bool) (l : List α) (z : α) (k : Nat) (hk : k < l.length) (h : p (l.getD k z) = true) (h0 : ∀ j, j < k → p (l.getD j z) = false) : idxI p l = (k : Int) := by
  rw [getD_at l z k hk] at h
  have e : l.findIdx p = k := by
    rw [List.findIdx_eq hk]
    exact ⟨h, fun j hj => by have := h0 j hj; rwa [getD_at l z j (by omega)] at this⟩
  have ha : l.any p = true := by
    rw [List.any_eq_true]
    exact ⟨l[k], List.getElem_mem hk, h⟩
  unfold idxI; rw [ha, e]; rfl
theorem idxI_miss {α : Type} (p : α → Bool) (l : List α) (z : α) (h0 : ∀ j, j < l.length → p (l.getD j z) = false) : idxI p l = -1 := by
  have ha : l.any p = false := by
    rw [List.any_eq_false]
    intro x hx
    obtain ⟨j, hj, rfl⟩ := List.mem_iff_getElem.1 hx
    have := h0 j hj
    simpa [List.getD_eq_getElem?_getD, hj] using this
  unfold idxI; rw [ha]; rfl
theorem idxI_geq {α : Type} (p : α → Bool) (l : List α) : decide (idxI p l ≥ 0) = l.any p := by
  unfold idxI
  cases h : l.any p
  · simp
  · simp
theorem idxI_lt {α : Type} (p : α → Bool) (l : List α) : idxI p l < l.length ∧ -1 ≤ idxI p l := by
  unfold idxI
  cases h : l.any p
  · simp only [Bool.false_eq_true, if_false]; omega
  · have : l.findIdx p < l.length := by
      rw [List.findIdx_lt_length]; rw [List.any_eq_true] at h; exact h
    simp only [if_true]; omega

theorem below_chain {w W W' : World} (h : Below w.heap.size w W) (k : Below W.heap.size W W') : Below w.heap.size w W' := below_then h h.size k
theorem size_toList (s : ByteArray) : s.toList.length = s.size := by rw [ByteArray.toList_eq, data_length]
theorem reads_bytes (w : World) (e : TypeId) (s : ByteArray) (hs : s.size ≤ 9223372036854775807) (g : Nat) (hg : w.heap.size = g) : Kd.C (Kd.int .u8) (Lib.bytesWorld w e s) (some ⟨g, 0, none⟩) (bytesOf s).length (bytesOf s) := by
  subst hg
  rw [bytesOf_length]
  exact Kd.C_of_reads (d := (0 : Int)) (h1 := fun _ => rfl) (bytes_reads w e s hs)
theorem size_bytes (w : World) (o : Obj) (e : TypeId) (s : ByteArray) : w.heap.size < (Lib.bytesWorld (w.alloc o) e s).heap.size := by rw [Lib.bytesWorld_size]; simp; omega
theorem cell_box (w : World) (v : Value) (t : TypeId) : (w.alloc (.cells #[v] t)).cell? ⟨w.heap.size, 0, none⟩ = some v := by simp [World.cell?, World.alloc, -World.alloc_eq]
theorem any_not {α : Type} (p : α → Bool) (l : List α) : (!l.any fun x => !p x) = l.all p := by induction l <;> simp_all
/-- octets of names -/
def digC (x : Int) : Bool := decide (48 ≤ x ∧ x ≤ 57)
def letC (x : Int) : Bool := decide (97 ≤ x ∧ x ≤ 122) || decide (65 ≤ x ∧ x ≤ 90) || decide (x = 95)
def nameC (x : Int) : Bool := letC x || digC x
def nameB (l : List Int) : Bool := decide (l.length ≤ 64) && (decide (0 < l.length) && l.all nameC) && !digC (l.getD 0 0)
theorem bytesOf_range {s : ByteArray} {x : Int} (h : x ∈ bytesOf s) : 0 ≤ x ∧ x ≤ 255 := by
  unfold bytesOf at h
  obtain ⟨b, _, rfl⟩ := List.mem_map.1 h
  have := b.toNat_lt
  omega
def digitsB (l : List Int) : Bool := decide (0 < l.length) && l.all digC
theorem digitsB_eq (s : ByteArray) : digitsB (bytesOf s) = (decide (0 < s.size) && (bytesOf s).all digC) := by unfold digitsB; rw [bytesOf_length]
theorem nameB_eq (s : ByteArray) (h : s.size ≤ 64) : nameB (bytesOf s) = ((decide (0 < s.size) && (bytesOf s).all nameC) && !digC (bt s 0)) := by
  unfold nameB; rw [bytesOf_length, ← rd_bytesOf]; simp [h, rd]
theorem nameB_long (s : ByteArray) (h : ¬ s.size ≤ 64) : nameB (bytesOf s) = false := by unfold nameB; rw [bytesOf_length]; simp [h]
theorem addr_plain {w : World} {a : Addr} {v : Value} (h : w.cell? a = some v) : a = ⟨a.block, a.off, none⟩ := by
  obtain ⟨b, o, s⟩ := a
  cases s with
  | none => rfl
  | some s =>
    unfold World.cell? at h
    split at h <;> simp at h
theorem add_at (b o j : Nat) : (⟨b, o, none⟩ : Addr).add j = ⟨b, o + j, none⟩ := by unfold Addr.add; split <;> simp_all
theorem strings_at {w : World} {A : Option Addr} {l : List ByteArray} (h : Kd.C Kd.string w A l.length l) (h0 : 0 < l.length) :
    ∃ b o, A = some ⟨b, o, none⟩ ∧ b < w.heap.size ∧ ∀ (j : Nat) x, l[j]? = some x → w.cell? ⟨b, o + j, none⟩ = some (.string x) := by
  obtain ⟨ad, rfl, hc⟩ := h.2.2 h0
  have hcell : ∀ (j : Nat) x, l[j]? = some x → w.cell? (ad.add j) = some (.string x) := by
    intro j x hj
    obtain ⟨c, _, hk, hcc⟩ := hc j x hj
    have hk' : c = [.string x] := hk
    subst hk'
    have := hcc 0 _ rfl
    simpa [Kd.string, Kd.scalar] using this
  have c0 := hcell 0 _ (List.getElem?_eq_getElem h0)
  have e0 : ad.add 0 = ad := by simp [Addr.add]
  rw [e0] at c0
  have ea := addr_plain c0
  refine ⟨ad.block, ad.off, by rw [← ea], World.block_lt_of_cell? w ad c0, fun j x hj => ?_⟩
  have := hcell j x hj
  rw [ea, add_at] at this
  exact this
theorem ascii_at {l : List UInt8} (h : l.all (fun b => decide (b.toNat < 128)) = true) (j : Nat) (b : UInt8) (hj : l[j]? = some b) : b.toNat < 128 := by
  rw [List.all_eq_true] at h
  simpa using h b (List.mem_of_getElem? hj)
theorem R_empty {α : Type} (d : Kd α) (e : TypeId) (w : World) (base : Nat) (hb : base ≤ w.heap.size) : d.R e (w.alloc (.cells #[] e)) base (fun _ => True) (.slice (some ⟨w.heap.size, 0, none⟩) 0 0) [] := by
  refine ⟨fun _ _ => trivial, [], ⟨by simp, .inr ⟨w.heap.size, 0, #[], rfl, hb, ?_, Nat.le_refl _, by unfold maxLen; omega, by simp, by simp⟩⟩, Reps.none _ _⟩
  simp [World.alloc, -World.alloc_eq]
/-- a row that is read, as its bare cells -/
theorem C_raw {α : Type} {d : Kd α} {w : World} {A : Option Addr} {n : Nat} {xs : List α} (h : d.C w A n xs) :
    ∃ css : List (List Value), (Kd.raw d.sz).C w A n css ∧ ∀ (j : Nat) (x : α), xs[j]? = some x → ∃ c, css[j]? = some c ∧ d.K w x c := by
  obtain ⟨hl, hb, hc⟩ := h
  rcases Nat.eq_zero_or_pos n with h0 | h0
  · subst h0
    obtain rfl := List.length_eq_zero_iff.1 hl
    exact ⟨[], ⟨rfl, hb, fun h => absurd h (Nat.lt_irrefl 0)⟩, fun j x hj => by simp at hj⟩
  · obtain ⟨ad, rfl, hcell⟩ := hc h0
    have hg : ∀ j : Fin n, ∃ c : List Value, c.length = d.sz ∧ d.K w (xs[j.val]'(by rw [hl]; exact j.isLt)) c ∧ ∀ i u, c[i]? = some u → w.cell? (ad.add (j.val * d.sz + i)) = some u :=
      fun j => hcell j.val _ (List.getElem?_eq_getElem (by rw [hl]; exact j.isLt))
    refine ⟨List.ofFn fun j : Fin n => Classical.choose (hg j), ⟨by simp, hb, fun _ => ⟨ad, rfl, fun j p hj => ?_⟩⟩, fun j x hj => ?_⟩
    · have hjn : j < n := by have := (List.getElem?_eq_some_iff.1 hj).1; simpa using this
      have hp : Classical.choose (hg ⟨j, hjn⟩) = p := by simpa [List.getElem?_ofFn, hjn] using hj
      have hs := Classical.choose_spec (hg ⟨j, hjn⟩)
      rw [hp] at hs
      exact ⟨p, hs.1, ⟨rfl, hs.1, d.K_one hs.2.1⟩, hs.2.2⟩
    · have hjn : j < n := by rw [← hl]; exact (List.getElem?_eq_some_iff.1 hj).1
      have hx : xs[j]'(by rw [hl]; exact hjn) = x := by have := (List.getElem?_eq_some_iff.1 hj).2; exact this
      subst hx
      exact ⟨Classical.choose (hg ⟨j, hjn⟩), by simp [List.getElem?_ofFn, hjn], (Classical.choose_spec (hg ⟨j, hjn⟩)).2.1⟩
theorem cell_of {w : World} {g : Nat} {cur : Array Value} {t : TypeId} (h : w.heap[g]? = some (.cells cur t (0, 0))) {j : Nat} {v : Value} (hv : cur[j]? = some v) : w.cell? ⟨g, j, none⟩ = some v := by
  simp [World.cell?, h, hv]
theorem unfrozen_of {w : World} {g : Nat} {cur : Array Value} {t : TypeId} (h : w.heap[g]? = some (.cells cur t (0, 0))) (j : Nat) : w.frozen? ⟨g, j, none⟩ = false := by
  simp [World.frozen?, h]
theorem kept_cell {w w1 : World} (h : Below w.heap.size w w1) {a : Addr} {v : Value} (hc : w.cell? a = some v) : w1.cell? a = some v := pw_cell_below h hc
theorem kept_free {w w1 : World} (h : Below w.heap.size w w1) {a : Addr} (ha : a.block < w.heap.size) (hf : w.frozen? a = false) : w1.frozen? a = false := (h.frozen ha).trans hf
theorem below_self {w w1 : World} {o : Obj} (h : Below (w.alloc o).heap.size (w.alloc o) w1) : Below w.heap.size w w1 := below_chain (below_alloc (Below.refl _ _) o) h
theorem cur_at {cur : Array Value} {inner c : List Value} {m j i sz : Nat} {u : Value} (hi : cur.toList.take m = inner) (hc : (inner.drop (j * sz)).take sz = c) (h : i < sz) (hu : c[i]? = some u) : cur[j * sz + i]? = some u := by
  subst hi hc
  rw [List.getElem?_take_of_lt h, List.getElem?_drop] at hu
  have hl := (List.getElem?_eq_some_iff.1 hu).1
  rw [List.getElem?_take_of_lt (by rw [List.length_take] at hl; omega), Array.getElem?_toList] at hu
  exact hu
theorem setCell_heap {w : World} {g : Nat} {cur : Array Value} {t : TypeId} (h : w.heap[g]? = some (.cells cur t (0, 0))) (j : Nat) (v : Value) : (w.setCell ⟨g, j, none⟩ v).heap[g]? = some (.cells (cur.setIfInBounds j v) t (0, 0)) := by
  simp [World.setCell, Array.getElem?_modify, h]
theorem indexByte_range (l : List UInt8) (c : UInt8) : -1 ≤ Lib.indexByte l c ∧ Lib.indexByte l c < l.length := by
  induction l with
  | nil => simp [Lib.indexByte]
  | cons b l ih =>
    unfold Lib.indexByte
    split
    · simp only [List.length_cons]; omega
    · split
      · simp only [List.length_cons]; omega
      · simp only [List.length_cons]; omega
theorem byte_cell {w wr : World} {e : TypeId} {s : ByteArray} (h : Below (Lib.bytesWorld w e s).heap.size (Lib.bytesWorld w e s) wr) {k : Nat} (hk : k < s.size) (hs : s.size ≤ 9223372036854775807) : wr.cell? ⟨w.heap.size, k, none⟩ = some (.int .u8 (bt s k)) := by
  rw [h.cell (p := ⟨w.heap.size, k, none⟩) (by rw [Lib.bytesWorld_size]; simp)]
  have h2 := (bytes_reads w e s hs).2.2 (by omega)
  obtain ⟨ad, ha, hc⟩ := h2
  have := hc k hk
  injection ha with ha
  subst ha
  rw [add_plain] at this
  rw [this, ← rd_bytesOf]
  simp [rd]
theorem bytes_drop (s : ByteArray) (k : Nat) (hk : k < s.size) : (bytesOf s).drop k = bt s k :: (bytesOf s).drop (k + 1) := by
  have hl : k < (bytesOf s).length := by rw [bytesOf_length]; exact hk
  rw [List.drop_eq_getElem_cons hl, ← rd_bytesOf]
  simp [rd, List.getD_eq_getElem?_getD, hl]
theorem ne_empty (s : ByteArray) : decide (0 < s.size) = !s.toList.isEmpty := by
  rw [← size_toList]
  cases s.toList <;> simp
/-- a number's digits, as octets -/
def decI (m : Nat) : List Int := if h : m < 10 then [48 + (m : Int)] else decI (m / 10) ++ [48 + ((m % 10 : Nat) : Int)]
termination_by m
decreasing_by omega
theorem decI_small {m : Nat} (h : m < 10) : decI m = [48 + (m : Int)] := by unfold decI; rw [dif_pos h]
theorem decI_big {m : Nat} (h : ¬ m < 10) : decI m = decI (m / 10) ++ [48 + ((m % 10 : Nat) : Int)] := by rw [decI, dif_neg h]
theorem decI_len (n : Nat) : ∀ m, m < 10 ^ (n + 1) → 1 ≤ (decI m).length ∧ (decI m).length ≤ n + 1 := by
  induction n with
  | zero => intro m h; rw [decI_small (by omega)]; simp
  | succ n ih =>
    intro m h
    by_cases h0 : m < 10
    · rw [decI_small h0]; simp
    · rw [decI_big h0]
      have := ih (m / 10) (by rw [Nat.pow_succ] at h; omega)
      simp; omega
def decimal (n : Int) : List Int := if n < 0 then 45 :: decI (-n).toNat else decI n.toNat
theorem heap_self (w : World) (o : Obj) : (w.alloc o).heap[w.heap.size]? = some o := by simp [World.alloc, -World.alloc_eq]
theorem N_fresh {α : Type} {d : Kd α} {e : Nat} {w : World} {base : Nat} {v : Value} {xs : List α} (h : Kd.S d e w base (fun _ => True) v xs) : Kd.N d e w base (fun k => base ≤ k) v xs :=
  let ⟨f, hR⟩ := h
  Kd.S_N (show Kd.S d e w base (fun k => base ≤ k) v xs from ⟨f, Kd.R_mono (Kd.R_bound hR) (fun _ hk => hk.2.1)⟩)
theorem V_any {α : Type} {d : Kd α} {e : Nat} {W : World} {base base' : Nat} {ok ok' : Nat → Prop} {v : Value} {xs : List α} (h : Kd.V d e W base ok v xs) (hok : ∀ k, ok k → ok' k) : Kd.V d e W base' ok' v xs := Kd.V_mono h hok
theorem box3 (w : World) (v0 v1 v2 : Value) (t : TypeId) : (w.alloc (.cells #[v0, v1, v2] t)).cell? ⟨w.heap.size, 0, none⟩ = some v0 ∧ (w.alloc (.cells #[v0, v1, v2] t)).cell? ⟨w.heap.size, 1, none⟩ = some v1 ∧ (w.alloc (.cells #[v0, v1, v2] t)).cell? ⟨w.heap.size, 2, none⟩ = some v2 := by
  simp [World.cell?, World.alloc, -World.alloc_eq]
theorem box4 (w : World) (v0 v1 v2 v3 : Value) (t : TypeId) : (w.alloc (.cells #[v0, v1, v2, v3] t)).cell? ⟨w.heap.size, 0, none⟩ = some v0 := by
  simp [World.cell?, World.alloc, -World.alloc_eq]
theorem cell_on {w : World} {a : Addr} {v : Value} (h : w.cell? a = some v) (o : Obj) : (w.alloc o).cell? a = some v := by
  exact pw_cell_below (below_alloc (Below.refl _ _) o) h
theorem enters {P : Program} {f : FuncId} {fn : Func} {c : Code} (hf : P.funcs[f]? = some fn) (hname : (fn.name == "runtime.NumGoroutine") = false) (hb : fn.body = some c) (args : Array Value) (w : World) : (callFunc f args).run P w = .ok (.enter f args) w := enters_of hf hname hb args w
end Go.Proofs.XC
