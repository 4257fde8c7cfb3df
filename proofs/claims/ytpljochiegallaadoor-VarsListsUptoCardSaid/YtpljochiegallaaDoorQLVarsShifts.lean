import Derived.Test.YtpljochiegallaaDoorQXVarsx0
import Derived.Test.YtpljochiegallaaDoorQXC
import Derived.Test.YtpljochiegallaaDoorQXO
import Derived.Test.YtpljochiegallaaDoorQXVarsx1
import Derived.Test.YtpljochiegallaaDoorQXVarsx4
import Derived.Test.YtpljochiegallaaDoorQXVarsx5
import Derived.Test.YtpljochiegallaaDoorQXVarsx6
namespace Go.Proofs.YtpljochiegallaaDoor.XVars
open Go.RowKit Go.Proofs.YtpljochiegallaaDoorW.PrintWords Go.Proofs.YtpljochiegallaaDoorW.PrintLast Go.Proofs.YtpljochiegallaaDoorW.PrintMore
attribute [local go_sem] max2_int min2_int max_two min_two max_three min_three max_four min_four   -- for this text's walks alone
set_option linter.unusedVariables false
set_option linter.unusedSimpArgs false

/-! ### shifts_walk.tpl -/
/-! ### shifts_law.tpl -/
theorem mono_le {α : Type} {f : Nat → Option α} (h : ∀ k, LeO (f k) (f (k + 1))) {k k' : Nat} (hk : k ≤ k') {r : α} (e : f k = some r) : f k' = some r := by
  induction hk with
  | refl => exact e
  | step _ ih => exact h _ _ ih
theorem wrap_small {i : Nat} (h : i ≤ 4611686018427387904) : wrap64 ((i : Int) + 1) = ((i + 1 : Nat) : Int) := by
  have : ((i : Int) + 1) = ((i + 1 : Nat) : Int) := by simp
  rw [this]; unfold wrap64; omega
theorem rd_at (l : List S53) (i : Nat) (h : i < l.length) : rd_T53 l (i : Int) = l[i] := by
  simp [rd_T53, List.getD_eq_getElem?_getD, h]
/-- a store of at most 2^20 variables, each of at most 2^20 elements -/
def Sm (l : List S53) : Prop := l.length ≤ 1048576 ∧ ∀ x ∈ l, x.f3.length ≤ 1048576
theorem copyTexts_some (l : List ByteArray) (h : l.length ≤ 1048576) : cowrieplain_CopyTexts.f l = some l := by
  unfold cowrieplain_CopyTexts.f
  rw [if_pos (by simp; omega), List.nil_append]
theorem copyVars_some (l : List S53) (h : Sm l) : ∀ n i k, i + n = l.length → n < k → cowrieplain_CopyVars.l0 k l (l.take i) (i : Int) = some l := by
  intro n
  induction n with
  | zero =>
    intro i k hi hk
    obtain ⟨k, rfl⟩ : ∃ k', k = k' + 1 := ⟨k - 1, by omega⟩
    unfold cowrieplain_CopyVars.l0
    rw [if_neg (by omega), List.take_of_length_le (by omega)]
  | succ n ih =>
    intro i k hi hk
    obtain ⟨k, rfl⟩ : ∃ k', k = k' + 1 := ⟨k - 1, by omega⟩
    have hil : i < l.length := by omega
    unfold cowrieplain_CopyVars.l0
    rw [if_pos (by omega), if_pos (by omega), rd_at l i hil, copyTexts_some _ (h.2 _ (List.getElem_mem hil))]
    have hs := h.1
    rw [Option.bind_some, if_pos (by rw [List.length_take]; omega), wrap_small (by omega)]
    have e : l.take i ++ [(⟨l[i].f0, l[i].f1, l[i].f2, l[i].f3⟩ : S53)] = l.take (i + 1) := by
      rw [List.take_succ_eq_append_getElem hil]
    rw [e]
    exact ih (i + 1) k (by omega) (by omega)
theorem Of_some (l0 : List S53) (l1 : List ByteArray) (st : Int) (h0 : Sm l0) (h1 : l1.length ≤ 1048576) (k : Nat) (hk : 1048577 ≤ k) : cowrielaw20_Of.f k l0 l1 st = some (l0, l1, st) := by
  have := copyVars_some l0 h0 l0.length 0 k (by omega) (by have := h0.1; omega)
  rw [List.take_zero] at this
  unfold cowrielaw20_Of.f cowrieplain_CopyVars.f
  rw [show cowrieplain_CopyVars.l0 k l0 [] 0 = some l0 from this, copyTexts_some _ h1]
  rfl
theorem own_some (l : List S53) (h : Sm l) : vars_own.f l = some l := by
  unfold vars_own.f
  have := h.1
  rw [if_pos (by omega), if_pos]
  simp only [List.all_eq_true, decide_eq_true_eq]
  intro x hx
  have := h.2 x hx
  omega
theorem clone_some (l : List ByteArray) (h : l.length ≤ 1048576) : slices_Clone_string_string.f l = some l := by
  unfold slices_Clone_string_string.f
  rw [if_pos (by simp; omega), List.nil_append]
theorem sameTexts_l (l : List ByteArray) (h : l.length ≤ 1048576) : ∀ n i k, i + n = l.length → n < k → cowrieplain_SameTexts.l0 k l l (i : Int) = some true := by
  intro n
  induction n with
  | zero =>
    intro i k hi hk
    obtain ⟨k, rfl⟩ : ∃ k', k = k' + 1 := ⟨k - 1, by omega⟩
    unfold cowrieplain_SameTexts.l0
    rw [if_neg (by omega)]
  | succ n ih =>
    intro i k hi hk
    obtain ⟨k, rfl⟩ : ∃ k', k = k' + 1 := ⟨k - 1, by omega⟩
    unfold cowrieplain_SameTexts.l0
    rw [if_pos (by omega), if_pos (by omega), if_pos (by omega), if_pos rfl, wrap_small (by omega)]
    exact ih (i + 1) k (by omega) (by omega)
theorem sameTexts_some (l : List ByteArray) (h : l.length ≤ 1048576) (k : Nat) (hk : 1048577 ≤ k) : cowrieplain_SameTexts.f k l l = some true := by
  unfold cowrieplain_SameTexts.f
  rw [if_pos rfl]
  exact sameTexts_l l h l.length 0 k (by omega) (by omega)
theorem alive_some : cowrielaw20_alive.f 20 = some true := by decide +kernel
/-! ### shifts_end.tpl -/
open Go.ChangeShapes Go.WideShapes Go.ChangeAt Go.Joins Go.Deep
set_option maxRecDepth 100000
end Go.Proofs.YtpljochiegallaaDoor.XVars
