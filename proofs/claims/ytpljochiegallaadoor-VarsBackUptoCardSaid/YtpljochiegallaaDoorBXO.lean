/- COMMON TO ALL SEATS: opening what a row's arguments read as (DataW.trod) into the words of the print (Kd). Put the seat's Name for YtpljochiegallaaDoor. -/
import Derived.Test.YtpljochiegallaaDoorBXC
import Derived.Test.YtpljochiegallaaDoorRows
import Derived.OpenShut
import Derived.Deep.Slices
import Derived.Lib.SmallJoins
namespace Go.Proofs.YtpljochiegallaaDoor.XO
open Go.RowKit Go.Proofs.YtpljochiegallaaDoorW.PrintWords Go.Proofs.YtpljochiegallaaDoorW.PrintLast Go.Proofs.YtpljochiegallaaDoorW.PrintMore
open Go.ChangeShapes Go.WideShapes Go.ChangeAt Go.Deep

/-- what is read at a type is a word 'x' of the print's form, of weight 'wt x' at most its bulk -/
def Op {α : Type} (d : Kd α) (P : Program) (W : World) (t : TypeId) (wt : α → Nat) : Prop :=
  ∀ {H : Type} (enc : TypeId × Value → H) (sp : Nat → Bool) (held : Bool) (fuel : Nat) (cs : List Value) (x : DataW H × List MemPlace), DataW.trod enc P W 0 sp held fuel t cs = some x → ∃ a : α, d.K W a cs ∧ wt a ≤ Rows.uptoBulk x.1

def wsum {α : Type} (wt : α → Nat) : List α → Nat
  | [] => 0
  | x :: r => wt x + wsum wt r

theorem op_string {P : Program} {W : World} {t : TypeId} (ht : P.underlying t = some .string) : Op Kd.string P W t (fun s => s.size + 1) := by
  intro H enc sp held fuel cs x h
  obtain ⟨s, hc, hx, hsz⟩ := DataW.trod_string ht h
  subst hx
  have hc' : cs = [.string s] := hc
  refine ⟨s, hc', ?_⟩
  simp only [Rows.uptoBulk]
  have e : s.data.toList.length = s.size := by rw [Array.length_toList]; rfl
  omega
theorem op_bool {P : Program} {W : World} {t : TypeId} (ht : P.underlying t = some .bool) : Op Kd.bool P W t (fun _ => 1) := by
  intro H enc sp held fuel cs x h
  obtain ⟨s, hc, hx⟩ := DataW.trod_bool ht h
  subst hx
  have hc' : cs = [.bool s] := hc
  exact ⟨s, hc', by simp [Rows.uptoBulk]⟩

theorem wsum_get {α : Type} (wt : α → Nat) {H : Type} : ∀ (xs : List α) (ds : List (DataW H)), xs.length = ds.length → (∀ (i : Nat) x d, xs[i]? = some x → ds[i]? = some d → wt x ≤ Rows.uptoBulk d) → wsum wt xs ≤ Rows.uptoBulkAll ds
  | [], _, _, _ => by simp [wsum]
  | x :: xs, [], h, _ => by simp at h
  | x :: xs, d :: ds, h, hh => by
    have h0 := hh 0 x d rfl rfl
    have := wsum_get wt xs ds (by simpa using h) (fun i y e h1 h2 => hh (i + 1) y e (by simpa using h1) (by simpa using h2))
    simp only [wsum, Rows.uptoBulkAll]
    omega

/-- a slice: its cells as a row of the print -/
theorem slice_C {α : Type} {d : Kd α} {P : Program} {W : World} {t e : TypeId} {wt : α → Nat} (ht : P.underlying t = some (.slice e)) (hz : P.cellsOf e = d.sz) (ho : Op d P W e wt)
    {H : Type} {enc : TypeId × Value → H} {sp : Nat → Bool} {held : Bool} {fuel : Nat} {cs : List Value} {x : DataW H × List MemPlace} (h : DataW.trod enc P W 0 sp held fuel t cs = some x) :
    ∃ (xs : List α) (A : Option Addr) (c : Nat), cs = [.slice A xs.length c] ∧ xs.length ≤ c ∧ d.C W A xs.length xs ∧ wsum wt xs + 1 ≤ Rows.uptoBulk x.1 := by
  rcases open_slice ht h with ⟨rfl, rfl⟩ | ⟨a, len, cap, m, n, D, Pl, rfl, hb, hl, hm, hmm, rfl, hx⟩
  · exact ⟨[], none, 0, rfl, Nat.le_refl _, ⟨rfl, by simp, fun h => absurd h (by simp)⟩, by simp [wsum, Rows.uptoBulk]⟩
  · have hlm : len ≤ m := by rw [hmm]; split <;> omega
    have hg : ∀ i : Fin len, ∃ a0 : α, ∃ cs', W.cells? 0 (a.add (i.val * P.cellsOf e)) (P.cellsOf e) = some cs' ∧ d.K W a0 cs' ∧ wt a0 ≤ Rows.uptoBulk (D i.val) := fun i => by
      obtain ⟨cs', h1, h2⟩ := hx i.val (Nat.lt_of_lt_of_le i.isLt hlm)
      obtain ⟨a0, h3, h4⟩ := ho enc sp held n cs' _ h2
      exact ⟨a0, cs', h1, h3, h4⟩
    let xs : List α := List.ofFn fun i : Fin len => Classical.choose (hg i)
    have hlen : xs.length = len := by simp [xs]
    have hat : ∀ (i : Nat) (y : α), xs[i]? = some y → ∃ h : i < len, y = Classical.choose (hg ⟨i, h⟩) := fun i y hi => by
      have hil : i < len := by have := (List.getElem?_eq_some_iff.1 hi).1; omega
      refine ⟨hil, ?_⟩
      have : xs[i]? = some (Classical.choose (hg ⟨i, hil⟩)) := by simp [xs, hil]
      rw [this] at hi
      exact (Option.some.inj hi).symm
    refine ⟨xs, some a, cap, by rw [hlen], by omega, ⟨rfl, by have : cap ≤ maxLen := hm; unfold maxLen at this; omega, fun _ => ⟨a, rfl, fun j p hj => ?_⟩⟩, ?_⟩
    · obtain ⟨hil, rfl⟩ := hat j p hj
      obtain ⟨cs', h1, h2, h3⟩ := Classical.choose_spec (hg ⟨j, hil⟩)
      refine ⟨cs', d.K_len h2, h2, fun i u hu => ?_⟩
      obtain ⟨hb1, hb2, hb3⟩ := World.cells?_some h1
      rw [← hz]
      have hi : i < P.cellsOf e := by rw [hz, ← d.K_len h2]; exact (List.getElem?_eq_some_iff.1 hu).1
      have := hb3 i hi
      have hu' : cs'[i]? = some u := hu
      rw [Go.Deep.add_add, hu'] at this
      exact this
    · simp only [Rows.uptoBulk]
      have := wsum_get wt xs ((List.range len).map D) (by simp [hlen]) (fun i y dd h1 h2 => by
        obtain ⟨hil, rfl⟩ := hat i y h1
        obtain ⟨cs', _, _, h3⟩ := Classical.choose_spec (hg ⟨i, hil⟩)
        simp [List.getElem?_map, List.getElem?_range hil] at h2
        subst h2
        exact h3)
      omega
theorem wsum_len {α : Type} (wt : α → Nat) (h1 : ∀ x, 1 ≤ wt x) : ∀ xs : List α, xs.length ≤ wsum wt xs
  | [] => by simp
  | x :: xs => by have := wsum_len wt h1 xs; have := h1 x; simp only [wsum, List.length_cons]; omega
theorem wsum_mem {α : Type} (wt : α → Nat) : ∀ (xs : List α) x, x ∈ xs → wt x ≤ wsum wt xs
  | y :: xs, x, h => by
    simp only [wsum]
    rcases List.mem_cons.1 h with rfl | h
    · omega
    · have := wsum_mem wt xs x h; omega
end Go.Proofs.YtpljochiegallaaDoor.XO
