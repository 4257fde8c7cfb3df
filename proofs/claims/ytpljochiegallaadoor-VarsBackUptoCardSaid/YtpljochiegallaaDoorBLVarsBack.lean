import Derived.Test.YtpljochiegallaaDoorBXVBx0
import Derived.Test.YtpljochiegallaaDoorBXO
import Derived.Test.YtpljochiegallaaDoorBXVBFn
import Derived.Test.YtpljochiegallaaDoorBXVBCt
namespace Go.Proofs.YtpljochiegallaaDoor.XVB
open Go.RowKit Go.Proofs.YtpljochiegallaaDoorW.PrintWords Go.Proofs.YtpljochiegallaaDoorW.PrintLast Go.Proofs.YtpljochiegallaaDoorW.PrintMore
attribute [local go_sem] max2_int min2_int max_two min_two max_three min_three max_four min_four   -- for this text's walks alone
set_option linter.unusedVariables false
set_option linter.unusedSimpArgs false

/-! ### back_base.tpl -/
theorem mono_le {α : Type} {f : Nat → Option α} (h : ∀ k, LeO (f k) (f (k + 1))) {k k' : Nat} (hk : k ≤ k') {r : α} (e : f k = some r) : f k' = some r := by
  induction hk with
  | refl => exact e
  | step _ ih => exact h _ _ ih
theorem wrap_small {i : Nat} (h : i ≤ 4611686018427387904) : wrap64 ((i : Int) + 1) = ((i + 1 : Nat) : Int) := by
  have : ((i : Int) + 1) = ((i + 1 : Nat) : Int) := by simp
  rw [this]; unfold wrap64; omega
theorem rd_at (l : List S53) (i : Nat) (h : i < l.length) : rd_T53 l (i : Int) = l[i] := by
  simp [rd_T53, List.getD_eq_getElem?_getD, h]
/-- a store of at most 2^20 variables, each of at most 2^20 elements -/
def Sm (l : List S53) : Prop := l.length ≤ 1048576 ∧ ∀ x ∈ l, x.f3.length ≤ 1048576
theorem copyTexts_some (l : List ByteArray) (h : l.length ≤ 1048576) : cowrieplain_CopyTexts.f l = some l := by
  unfold cowrieplain_CopyTexts.f
  rw [if_pos (by simp; omega), List.nil_append]
theorem copyVars_some (l : List S53) (h : Sm l) : ∀ n i k, i + n = l.length → n < k → cowrieplain_CopyVars.l0 k l (l.take i) (i : Int) = some l := by
  intro n
  induction n with
  | zero =>
    intro i k hi hk
    obtain ⟨k, rfl⟩ : ∃ k', k = k' + 1 := ⟨k - 1, by omega⟩
    unfold cowrieplain_CopyVars.l0
    rw [if_neg (by omega), List.take_of_length_le (by omega)]
  | succ n ih =>
    intro i k hi hk
    obtain ⟨k, rfl⟩ : ∃ k', k = k' + 1 := ⟨k - 1, by omega⟩
    have hil : i < l.length := by omega
    unfold cowrieplain_CopyVars.l0
    rw [if_pos (by omega), if_pos (by omega), rd_at l i hil, copyTexts_some _ (h.2 _ (List.getElem_mem hil))]
    have hs := h.1
    rw [Option.bind_some, if_pos (by rw [List.length_take]; omega), wrap_small (by omega)]
    have e : l.take i ++ [(⟨l[i].f0, l[i].f1, l[i].f2, l[i].f3⟩ : S53)] = l.take (i + 1) := by
      rw [List.take_succ_eq_append_getElem hil]
    rw [e]
    exact ih (i + 1) k (by omega) (by omega)
theorem Of_some (l0 : List S53) (l1 : List ByteArray) (st : Int) (h0 : Sm l0) (h1 : l1.length ≤ 1048576) (k : Nat) (hk : 1048577 ≤ k) : cowrielaw20_Of.f k l0 l1 st = some (l0, l1, st) := by
  have := copyVars_some l0 h0 l0.length 0 k (by omega) (by have := h0.1; omega)
  rw [List.take_zero] at this
  unfold cowrielaw20_Of.f cowrieplain_CopyVars.f
  rw [show cowrieplain_CopyVars.l0 k l0 [] 0 = some l0 from this, copyTexts_some _ h1]
  rfl
theorem own_some (l : List S53) (h : Sm l) : vars_own.f l = some l := by
  unfold vars_own.f
  have := h.1
  rw [if_pos (by omega), if_pos]
  simp only [List.all_eq_true, decide_eq_true_eq]
  intro x hx
  have := h.2 x hx
  omega
theorem clone_some (l : List ByteArray) (h : l.length ≤ 1048576) : slices_Clone_string_string.f l = some l := by
  unfold slices_Clone_string_string.f
  rw [if_pos (by simp; omega), List.nil_append]

theorem alive_some : cowrielaw20_alive.f 5000001 = some true := by decide +kernel
/-- a store whose texts are short, too -/
def Bg (l : List S53) : Prop := ∀ x ∈ l, x.f0.size ≤ 1048576 ∧ x.f1.size ≤ 1048576 ∧ ∀ s ∈ x.f3, s.size ≤ 1048576
theorem text_term (s : ByteArray) (hs : s.size ≤ 1048576) : ∀ n i k, i + n = s.size → n < k → ∃ r, cowrieref20_text.l0 k s (i : Int) = some r := by
  intro n
  induction n with
  | zero =>
    intro i k hi hk
    obtain ⟨k, rfl⟩ : ∃ k', k = k' + 1 := ⟨k - 1, by omega⟩
    rw [cowrieref20_text.l0, if_neg (by omega)]
    split <;> exact ⟨_, rfl⟩
  | succ n ih =>
    intro i k hi hk
    obtain ⟨k, rfl⟩ : ∃ k', k = k' + 1 := ⟨k - 1, by omega⟩
    rw [cowrieref20_text.l0, if_pos (by omega), if_pos (by omega)]
    split
    · exact ⟨_, rfl⟩
    · rw [wrap_small (by omega)]
      exact ih (i + 1) k (by omega) (by omega)
theorem text_some (s : ByteArray) (hs : s.size ≤ 1048576) (k : Nat) (hk : 1048577 ≤ k) : ∃ r, cowrieref20_text.f k s = some r := text_term s hs s.size 0 k (by omega) (by omega)
theorem rdOf_at (l : List ByteArray) (i : Nat) (h : i < l.length) : rdOf ByteArray.empty l (i : Int) = l[i] := by
  simp [rdOf, List.getD_eq_getElem?_getD, h]
theorem texts_term (l : List ByteArray) (hl : l.length ≤ 1048576) (hs : ∀ s ∈ l, s.size ≤ 1048576) : ∀ n i k, i + n = l.length → n + 1048577 < k → ∃ r, cowrieref20_texts.l0 k l (i : Int) = some r := by
  intro n
  induction n with
  | zero =>
    intro i k hi hk
    obtain ⟨k, rfl⟩ : ∃ k', k = k' + 1 := ⟨k - 1, by omega⟩
    rw [cowrieref20_texts.l0, if_neg (by omega)]
    exact ⟨_, rfl⟩
  | succ n ih =>
    intro i k hi hk
    obtain ⟨k, rfl⟩ : ∃ k', k = k' + 1 := ⟨k - 1, by omega⟩
    have hil : i < l.length := by omega
    rw [cowrieref20_texts.l0, if_pos (by omega), if_pos (by omega), rdOf_at l i hil]
    obtain ⟨r, hr⟩ := text_some l[i] (hs _ (List.getElem_mem hil)) k (by omega)
    rw [hr, Option.bind_some]
    split
    · rw [wrap_small (by omega)]
      exact ih (i + 1) k (by omega) (by omega)
    · exact ⟨_, rfl⟩
theorem texts_some (l : List ByteArray) (hl : l.length ≤ 1048576) (hs : ∀ s ∈ l, s.size ≤ 1048576) (k : Nat) (hk : 2097155 ≤ k) : ∃ r, cowrieref20_texts.f k l = some r :=
  texts_term l hl hs l.length 0 k (by omega) (by omega)
theorem letter_some (x : Int) : ∃ b, cowrieref01_letter.f x = some b := by
  unfold cowrieref01_letter.f
  repeat' split
  all_goals exact ⟨_, rfl⟩
theorem digit_some (x : Int) : ∃ b, cowrieref01_digit.f x = some b := by
  unfold cowrieref01_digit.f
  split <;> exact ⟨_, rfl⟩
theorem name_term (s : ByteArray) (hs : s.size ≤ 1048576) : ∀ n i k, i + n = s.size → n < k → ∃ r, cowrieref01_Name.l0 k s (i : Int) = some r := by
  intro n
  induction n with
  | zero =>
    intro i k hi hk
    obtain ⟨k, rfl⟩ : ∃ k', k = k' + 1 := ⟨k - 1, by omega⟩
    rw [cowrieref01_Name.l0, if_neg (by omega)]
    split <;> exact ⟨_, rfl⟩
  | succ n ih =>
    intro i k hi hk
    obtain ⟨k, rfl⟩ : ∃ k', k = k' + 1 := ⟨k - 1, by omega⟩
    obtain ⟨b, hb⟩ := letter_some (bt s (i : Int))
    obtain ⟨b', hb'⟩ := digit_some (bt s (i : Int))
    rw [cowrieref01_Name.l0, if_pos (by omega), if_pos (by omega), hb, Option.bind_some, wrap_small (by omega)]
    split
    · exact ih (i + 1) k (by omega) (by omega)
    · split
      · exact ⟨_, rfl⟩
      · rw [hb', Option.bind_some]
        split
        · exact ih (i + 1) k (by omega) (by omega)
        · exact ⟨_, rfl⟩
theorem name_some (s : ByteArray) (hs : s.size ≤ 1048576) (k : Nat) (hk : 1048577 ≤ k) : ∃ r, cowrieref01_Name.f k s = some r := name_term s hs s.size 0 k (by omega) (by omega)
theorem check_l1 (l0 : List S53) (l1 : List ByteArray) (st : Int) (i M : Nat) (hi : i < l0.length) (hl : l0.length ≤ 1024) (H : ∀ k, M ≤ k → ∃ r, cowrieref20_Check.l0 k ((i + 1 : Nat) : Int) l0 l1 st = some r) (a b : ByteArray) (c : Bool) (d : List ByteArray) :
    ∀ m j k, j + m = i → m + M < k → ∃ r, cowrieref20_Check.l1 k (i : Int) (j : Int) l0 l1 st a b c d = some r := by
  intro m
  induction m with
  | zero =>
    intro j k hj hk
    obtain ⟨k, rfl⟩ : ∃ k', k = k' + 1 := ⟨k - 1, by omega⟩
    rw [cowrieref20_Check.l1, if_neg (by omega), wrap_small (by omega)]
    exact H k (by omega)
  | succ m ih =>
    intro j k hj hk
    obtain ⟨k, rfl⟩ : ∃ k', k = k' + 1 := ⟨k - 1, by omega⟩
    rw [cowrieref20_Check.l1, if_pos (by omega), if_pos (by omega), if_pos (by omega)]
    split
    · exact ⟨_, rfl⟩
    · rw [wrap_small (by omega)]
      exact ih (j + 1) k (by omega) (by omega)
theorem check_l0 (l0 : List S53) (l1 : List ByteArray) (st : Int) (hl : l0.length ≤ 1024) (hsm : Sm l0) (hbg : Bg l0) :
    ∀ n i k, i + n = l0.length → n * (l0.length + 4) + 2097200 ≤ k → ∃ r, cowrieref20_Check.l0 k (i : Int) l0 l1 st = some r := by
  intro n
  induction n with
  | zero =>
    intro i k hi hk
    obtain ⟨k, rfl⟩ : ∃ k', k = k' + 1 := ⟨k - 1, by omega⟩
    rw [cowrieref20_Check.l0, if_neg (by omega)]
    exact ⟨_, rfl⟩
  | succ n ih =>
    intro i k hi hk
    obtain ⟨k, rfl⟩ : ∃ k', k = k' + 1 := ⟨k - 1, by omega⟩
    have hil : i < l0.length := by omega
    have em : (n + 1) * (l0.length + 4) = n * (l0.length + 4) + (l0.length + 4) := by rw [Nat.add_mul, Nat.one_mul]
    rw [em] at hk
    have hj2 : ∀ (b : Bool) a c d e, ∃ r, cowrieref20_Check.j2 k (i : Int) b l0 l1 st a c d e = some r := by
      intro b a c d e
      obtain ⟨k, rfl⟩ : ∃ k', k = k' + 1 := ⟨k - 1, by omega⟩
      rw [cowrieref20_Check.j2]
      split
      · exact ⟨_, rfl⟩
      · exact check_l1 l0 l1 st i (n * (l0.length + 4) + 2097200) hil hl (fun k' hk' => ih (i + 1) k' (by omega) hk') a c d e i 0 k (by omega) (by omega)
    have hb := hbg _ (List.getElem_mem hil)
    have hs := hsm.2 _ (List.getElem_mem hil)
    obtain ⟨r1, h1⟩ := name_some l0[i].f0 hb.1 k (by omega)
    obtain ⟨r2, h2⟩ := text_some l0[i].f1 hb.2.1 k (by omega)
    obtain ⟨r3, h3⟩ := texts_some l0[i].f3 hs hb.2.2 k (by omega)
    rw [cowrieref20_Check.l0, if_pos (by omega), if_pos (by omega), rd_at l0 i hil, h1, Option.bind_some]
    split
    · rw [h2, Option.bind_some]
      split
      · rw [h3, Option.bind_some]
        split
        · repeat' split
          all_goals exact hj2 _ _ _ _ _
        · exact hj2 _ _ _ _ _
      · exact hj2 _ _ _ _ _
    · exact hj2 _ _ _ _ _
theorem check_some (l0 : List S53) (l1 : List ByteArray) (st : Int) (hsm : Sm l0) (hbg : Bg l0) (h1 : l1.length ≤ 1048576) (g1 : ∀ s ∈ l1, s.size ≤ 1048576) (k : Nat) (hk : 4000000 ≤ k) : ∃ r, cowrieref20_Check.f k l0 l1 st = some r := by
  obtain ⟨r1, e1⟩ := texts_some l1 h1 g1 k (by omega)
  have hj : ∀ b : Bool, l0.length ≤ 1024 ∨ b = true → ∃ r, cowrieref20_Check.j0 k b l0 l1 st = some r := by
    intro b hb
    obtain ⟨k, rfl⟩ : ∃ k', k = k' + 1 := ⟨k - 1, by omega⟩
    rw [cowrieref20_Check.j0]
    split
    · exact ⟨_, rfl⟩
    · rename_i hnb
      have hl : l0.length ≤ 1024 := by rcases hb with h | h; exact h; exact absurd h hnb
      refine check_l0 l0 l1 st hl hsm hbg l0.length 0 k (by omega) ?_
      have : l0.length * (l0.length + 4) ≤ 1024 * 1028 := Nat.mul_le_mul hl (by omega)
      omega
  unfold cowrieref20_Check.f
  split
  · exact hj _ (.inr rfl)
  · have hl : l0.length ≤ 1024 := by omega
    rw [e1]
    simp only [Option.bind_some]
    repeat' split
    all_goals exact hj _ (.inl hl)

def isN (name : ByteArray) (v : S53) : Bool := v.f0.toList == name.toList
/-- a variable stands at a place, the first of its name -/
def Has (name : ByteArray) (l : List S53) (i : Nat) (v : S53) : Prop := ∃ h : i < l.length, l[i] = v ∧ isN name v = true ∧ ∀ j (hj : j < i), isN name (l[j]'(by omega)) = false
theorem idx_cases (name : ByteArray) (l : List S53) : (XC.idxI (isN name) l = -1 ∧ ∀ x ∈ l, isN name x = false) ∨ ∃ i v, XC.idxI (isN name) l = ((i : Nat) : Int) ∧ Has name l i v := by
  unfold XC.idxI
  cases h : l.any (isN name)
  · left
    refine ⟨by simp, fun x hx => ?_⟩
    rw [List.any_eq_false] at h
    simpa using h x hx
  · right
    have hl : l.findIdx (isN name) < l.length := by
      rw [List.findIdx_lt_length]; rw [List.any_eq_true] at h; exact h
    refine ⟨l.findIdx (isN name), l[l.findIdx (isN name)], by simp, hl, rfl, List.findIdx_getElem (w := hl), fun j hj => ?_⟩
    have := List.not_of_lt_findIdx hj
    simpa using this
theorem idx_has {name : ByteArray} {l : List S53} {i : Nat} {v : S53} (h : Has name l i v) : XC.idxI (isN name) l = (i : Int) := by
  obtain ⟨hl, hv, hn, hj⟩ := h
  refine XC.idxI_hit (isN name) l z53 i hl ?_ (fun j hji => ?_)
  · rw [XC.getD_at l _ i hl, hv]; exact hn
  · rw [XC.getD_at l _ j (by omega)]; exact hj j hji
theorem has_set {name : ByteArray} {l : List S53} {i : Nat} {v v' : S53} (h : Has name l i v) (hn : isN name v' = true) : Has name (l.set i v') i v' := by
  obtain ⟨hl, hv, _, hj⟩ := h
  refine ⟨by simpa using hl, by simp, hn, fun j hji => ?_⟩
  rw [List.getElem_set_ne (by omega)]
  exact hj j hji
theorem has_end {name : ByteArray} {l : List S53} {v' : S53} (h : ∀ x ∈ l, isN name x = false) (hn : isN name v' = true) : Has name (l ++ [v']) l.length v' := by
  refine ⟨by simp, by simp, hn, fun j hj => ?_⟩
  rw [List.getElem_append_left hj]
  exact h _ (List.getElem_mem hj)
theorem find_eq (l0 : List S53) (l1 : List ByteArray) (st : Int) (name : ByteArray) : vars_Store_find.f l0 l1 st name = some (XC.idxI (isN name) l0) := rfl
theorem isN_mk (name t : ByteArray) (b : Bool) (l : List ByteArray) : isN name ⟨name, t, b, l⟩ = true := by simp [isN]
theorem with_hit {l0 : List S53} {l1 : List ByteArray} {name : ByteArray} {i : Nat} {v0 : S53} (h : Has name l0 i v0) (hs : Sm l0) (h1 : l1.length ≤ 1048576) (st : Int) (t : ByteArray) (b : Bool) (l : List ByteArray) :
    vars_Store_with.f l0 l1 st name t b l = some (l0.set i ⟨name, t, b, l⟩, l1, st, 0) := by
  have hi := h.1
  unfold vars_Store_with.f
  rw [own_some _ hs, Option.bind_some, clone_some _ h1, Option.bind_some, find_eq, Option.bind_some, idx_has h, if_pos (by omega), if_pos (by omega), if_pos (by omega), Int.toNat_natCast]
theorem with_miss {l0 : List S53} {l1 : List ByteArray} {name : ByteArray} (h : XC.idxI (isN name) l0 = -1) (hs : Sm l0) (h1 : l1.length ≤ 1048576) (st : Int) (t : ByteArray) (b : Bool) (l : List ByteArray) :
    vars_Store_with.f l0 l1 st name t b l = some (if 1024 ≤ l0.length then ([], [], 0, 17) else (l0 ++ [⟨name, t, b, l⟩], l1, st, 0)) := by
  have hl := hs.1
  unfold vars_Store_with.f
  rw [own_some _ hs, Option.bind_some, clone_some _ h1, Option.bind_some, find_eq, Option.bind_some, h, if_neg (by omega)]
  by_cases hc : 1024 ≤ l0.length
  · rw [if_pos (by omega), if_pos hc]
  · rw [if_neg (by omega), if_neg hc, if_pos (by omega)]
theorem sm_put {l0 : List S53} (hs : Sm l0) {X : List S53} {v : S53} (hx : ∀ x ∈ X, x = v ∨ x ∈ l0) (hl : X.length ≤ 1048576) (hv : v.f3.length ≤ 1048576) : Sm X :=
  ⟨hl, fun x h => by rcases hx x h with rfl | h; exact hv; exact hs.2 x h⟩
theorem oName (name : ByteArray) (h : name.size ≤ 1048576) : octets_Name.f name = some (XC.nameB (bytesOf name)) := by
  unfold octets_Name.f; rw [if_pos (by omega)]
theorem ask_l (l : List ByteArray) (hl : l.length ≤ 1048576) : ∀ n i k, i + n = l.length → n < k → ∃ r, vars_ask.l0 k l (l.length : Int) (i : Int) = some r := by
  intro n
  induction n with
  | zero =>
    intro i k hi hk
    obtain ⟨k, rfl⟩ : ∃ k', k = k' + 1 := ⟨k - 1, by omega⟩
    rw [vars_ask.l0, if_neg (by omega)]
    exact ⟨_, rfl⟩
  | succ n ih =>
    intro i k hi hk
    obtain ⟨k, rfl⟩ : ∃ k', k = k' + 1 := ⟨k - 1, by omega⟩
    rw [vars_ask.l0, if_pos (by omega), if_pos (by omega), if_pos (by omega)]
    unfold strings_IndexByte.f
    rw [Option.bind_some]
    split
    · exact ⟨_, rfl⟩
    · split
      · exact ⟨_, rfl⟩
      · rw [wrap_small (by omega)]
        exact ih (i + 1) k (by omega) (by omega)
theorem ask_some (l : List ByteArray) (hl : l.length ≤ 1048576) (k : Nat) (hk : 1048577 ≤ k) : ∃ r, vars_ask.f k l = some r := ask_l l hl l.length 0 k (by omega) (by omega)

/-! ### back_p1.tpl -/
theorem idxb_none (l : List UInt8) (h : ∀ b ∈ l, b ≠ 0) : Lib.indexByte l 0 = -1 := by
  induction l with
  | nil => rfl
  | cons b l ih =>
    have hb : (b == 0) = false := by simpa using h b (by simp)
    unfold Lib.indexByte
    rw [hb, ih (fun x hx => h x (by simp [hx]))]; rfl
theorem bad_no {s : ByteArray} (h : ∀ x ∈ bytesOf s, x ≠ 0) (hs : s.size ≤ 65536) : texts_bad s = false := by
  unfold texts_bad
  rw [idxb_none s.data.toList (fun b hb e => h 0 (by unfold bytesOf; exact List.mem_map.2 ⟨b, hb, by rw [e]; rfl⟩) rfl)]
  simp; omega
theorem text_ok_l (s : ByteArray) (hs : s.size ≤ 1048576) : ∀ n i k, i + n = s.size → cowrieref20_text.l0 k s (i : Int) = some 0 → (∀ x ∈ (bytesOf s).drop i, x ≠ 0) ∧ s.size ≤ 65536 := by
  intro n
  induction n with
  | zero =>
    intro i k hi h
    cases k with
    | zero => simp [cowrieref20_text.l0] at h
    | succ k =>
      rw [cowrieref20_text.l0, if_neg (by omega)] at h
      have : (bytesOf s).drop i = [] := List.drop_of_length_le (by rw [bytesOf_length]; omega)
      rw [this]
      refine ⟨by simp, ?_⟩
      split at h
      · simp at h
      · omega
  | succ n ih =>
    intro i k hi h
    cases k with
    | zero => simp [cowrieref20_text.l0] at h
    | succ k =>
      rw [cowrieref20_text.l0, if_pos (by omega), if_pos (by omega)] at h
      split at h
      · simp at h
      · rename_i hne
        rw [wrap_small (by omega)] at h
        obtain ⟨h1, h2⟩ := ih (i + 1) k (by omega) h
        refine ⟨?_, h2⟩
        rw [XC.bytes_drop s i (by omega)]
        intro x hx
        rcases List.mem_cons.1 hx with rfl | hx
        · exact hne
        · exact h1 x hx
theorem text_ok {s : ByteArray} (hs : s.size ≤ 1048576) {k : Nat} (h : cowrieref20_text.f k s = some 0) : texts_bad s = false := by
  obtain ⟨h1, h2⟩ := text_ok_l s hs s.size 0 k (by omega) h
  exact bad_no (by simpa using h1) h2
theorem texts_ok_l (l : List ByteArray) (hl : l.length ≤ 1048576) (hs : ∀ s ∈ l, s.size ≤ 1048576) : ∀ n i k, i + n = l.length → cowrieref20_texts.l0 k l (i : Int) = some 0 → ∀ x ∈ l.drop i, texts_bad x = false := by
  intro n
  induction n with
  | zero =>
    intro i k hi h
    rw [List.drop_of_length_le (by omega)]; simp
  | succ n ih =>
    intro i k hi h
    cases k with
    | zero => simp [cowrieref20_texts.l0] at h
    | succ k =>
      have hil : i < l.length := by omega
      rw [cowrieref20_texts.l0, if_pos (by omega), if_pos (by omega), rdOf_at l i hil] at h
      obtain ⟨r, hr, h⟩ := Option.bind_eq_some_iff.mp h
      by_cases h0 : r = 0
      · rw [if_pos h0, wrap_small (by omega)] at h
        rw [List.drop_eq_getElem_cons hil]
        intro x hx
        rcases List.mem_cons.1 hx with rfl | hx
        · rw [h0] at hr; exact text_ok (hs _ (List.getElem_mem hil)) hr
        · exact ih (i + 1) k (by omega) h x hx
      · rw [if_neg h0, hr] at h
        exact absurd (Option.some.inj h) h0
theorem texts_ok {l : List ByteArray} (hl : l.length ≤ 1048576) (hs : ∀ s ∈ l, s.size ≤ 1048576) {k : Nat} (h : cowrieref20_texts.f k l = some 0) : l.any texts_bad = false := by
  have := texts_ok_l l hl hs l.length 0 k (by omega) h
  rw [List.any_eq_false]
  intro x hx
  rw [this x (by simpa using hx)]; simp
theorem letter_eq (x : Int) : cowrieref01_letter.f x = some (XC.letC x) := by
  unfold cowrieref01_letter.f XC.letC
  repeat' split
  all_goals (congr 1; rw [Bool.eq_iff_iff]; simp; omega)
theorem digit_eq (x : Int) : cowrieref01_digit.f x = some (XC.digC x) := by
  unfold cowrieref01_digit.f XC.digC
  by_cases a1 : x ≥ 48 <;> by_cases a2 : x ≤ 57 <;> simp [a1, a2] <;> omega
theorem name_l1 (s : ByteArray) (hs : s.size ≤ 1048576) : ∀ n i k, 1 ≤ i → i + n = s.size → n < k → cowrieref01_Name.l0 k s (i : Int) = some (((bytesOf s).drop i).all XC.nameC && decide (s.size ≤ 64)) := by
  intro n
  induction n with
  | zero =>
    intro i k h1 hi hk
    obtain ⟨k, rfl⟩ : ∃ k', k = k' + 1 := ⟨k - 1, by omega⟩
    rw [cowrieref01_Name.l0, if_neg (by omega), if_pos (by omega), List.drop_of_length_le (by rw [bytesOf_length]; omega)]
    simp; omega
  | succ n ih =>
    intro i k h1 hi hk
    obtain ⟨k, rfl⟩ : ∃ k', k = k' + 1 := ⟨k - 1, by omega⟩
    rw [cowrieref01_Name.l0, if_pos (by omega), if_pos (by omega), letter_eq, Option.bind_some, wrap_small (by omega), XC.bytes_drop s i (by omega), List.all_cons, ih (i + 1) k (by omega) (by omega) (by omega), if_neg (show ¬ ((i : Int) = 0) by omega), digit_eq, Option.bind_some]
    unfold XC.nameC
    cases XC.letC (bt s i) <;> cases XC.digC (bt s i) <;> simp
theorem let_dig (x : Int) (h : XC.letC x = true) : XC.digC x = false := by
  unfold XC.letC at h; unfold XC.digC
  simp at h ⊢; omega
theorem name_eq (s : ByteArray) (hs : s.size ≤ 1048576) (k : Nat) (hk : 1048578 ≤ k) : cowrieref01_Name.f k s = some (XC.nameB (bytesOf s)) := by
  obtain ⟨k, rfl⟩ : ∃ k', k = k' + 1 := ⟨k - 1, by omega⟩
  unfold cowrieref01_Name.f
  rw [cowrieref01_Name.l0]
  by_cases h0 : 0 < s.size
  · rw [if_pos (by omega), if_pos (by omega), letter_eq, Option.bind_some]
    have hw : wrap64 (0 + 1) = ((1 : Nat) : Int) := wrap_small (i := 0) (by omega)
    have hb := XC.bytes_drop s 0 h0
    rw [List.drop_zero] at hb
    have hn : XC.nameB (bytesOf s) = (XC.letC (bt s 0) && (((bytesOf s).drop 1).all XC.nameC && decide (s.size ≤ 64))) := by
      unfold XC.nameB
      rw [bytesOf_length]
      have hg : (bytesOf s).getD 0 0 = bt s 0 := by rw [hb]; rfl
      rw [hg]
      have ha : (bytesOf s).all XC.nameC = (XC.nameC (bt s 0) && ((bytesOf s).drop 1).all XC.nameC) := by
        rw [hb]; simp [List.all_cons]
      rw [ha]
      unfold XC.nameC
      cases hl : XC.letC (bt s 0)
      · cases XC.digC (bt s 0) <;> simp
      · rw [let_dig _ hl]; simp [h0, Bool.and_comm]
    rw [hn]
    cases hl : XC.letC (bt s 0)
    · rw [if_neg (by simp), if_pos rfl]; simp
    · rw [if_pos rfl, hw, name_l1 s hs (s.size - 1) 1 k (by omega) (by omega) (by omega)]; simp
  · rw [if_neg (by omega), if_neg (by omega)]
    unfold XC.nameB
    rw [bytesOf_length]
    simp [h0]

/-! ### back_p2.tpl -/
/-- variables that may be, of different names -/
def GoodL (l : List S53) : Prop := (∀ x ∈ l, vok x = true) ∧ l.Pairwise (fun a b => a.f0.toList ≠ b.f0.toList)
theorem j2_true {k : Nat} {i : Int} {l0 l1 st a b c d} (h : cowrieref20_Check.j2 k i true l0 l1 st a b c d = some 0) : False := by
  cases k with
  | zero => simp [cowrieref20_Check.j2] at h
  | succ k => rw [cowrieref20_Check.j2, if_pos rfl] at h; simp at h
theorem check_ok_k (l0 : List S53) (l1 : List ByteArray) (st : Int) (hl : l0.length ≤ 1024) (hs : Sm l0) (hb : Bg l0) : ∀ k,
    (∀ i : Nat, i ≤ l0.length → cowrieref20_Check.l0 k (i : Int) l0 l1 st = some 0 → ∀ j (hj : j < l0.length), i ≤ j → vok l0[j] = true ∧ ∀ m (hm : m < j), (l0[m]'(by omega)).f0.toList ≠ l0[j].f0.toList) ∧
    (∀ i j : Nat, ∀ hi : i < l0.length, j ≤ i → cowrieref20_Check.l1 k (i : Int) (j : Int) l0 l1 st l0[i].f0 l0[i].f1 l0[i].f2 l0[i].f3 = some 0 → (∀ m (hm : m < i), j ≤ m → (l0[m]'(by omega)).f0.toList ≠ l0[i].f0.toList) ∧ ∀ q (hq : q < l0.length), i + 1 ≤ q → vok l0[q] = true ∧ ∀ m (hm : m < q), (l0[m]'(by omega)).f0.toList ≠ l0[q].f0.toList) := by
  intro k
  induction k using Nat.strongRecOn with
  | ind k ih =>
  cases k with
  | zero => exact ⟨fun i _ h => by simp [cowrieref20_Check.l0] at h, fun i j _ _ h => by simp [cowrieref20_Check.l1] at h⟩
  | succ k =>
  refine ⟨fun i hi h => ?_, fun i j hi hj h => ?_⟩
  · rw [cowrieref20_Check.l0] at h
    by_cases hil : i < l0.length
    · rw [if_pos (by omega), if_pos (by omega), rd_at l0 i hil] at h
      have hbi := hb _ (List.getElem_mem hil)
      have hsi := hs.2 _ (List.getElem_mem hil)
      obtain ⟨t1, e1, h⟩ := Option.bind_eq_some_iff.mp h
      have hj2 : ∀ b, cowrieref20_Check.j2 k (i : Int) b l0 l1 st l0[i].f0 l0[i].f1 l0[i].f2 l0[i].f3 = some 0 → b = false ∧ ((∀ m (hm : m < i), (l0[m]'(by omega)).f0.toList ≠ l0[i].f0.toList) ∧ ∀ q (hq : q < l0.length), i + 1 ≤ q → vok l0[q] = true ∧ ∀ m (hm : m < q), (l0[m]'(by omega)).f0.toList ≠ l0[q].f0.toList) := by
        intro b hb2
        cases b with
        | true => exact absurd hb2 (fun h => j2_true h)
        | false =>
          cases k with
          | zero => simp [cowrieref20_Check.j2] at hb2
          | succ k =>
            rw [cowrieref20_Check.j2, if_neg (by simp)] at hb2
            obtain ⟨u1, u2⟩ := (ih k (by omega)).2 i 0 hil (by omega) hb2
            exact ⟨rfl, fun m hm => u1 m hm (by omega), u2⟩
      have fin : vok l0[i] = true → (∀ m (hm : m < i), (l0[m]'(by omega)).f0.toList ≠ l0[i].f0.toList) ∧ (∀ q (hq : q < l0.length), i + 1 ≤ q → vok l0[q] = true ∧ ∀ m (hm : m < q), (l0[m]'(by omega)).f0.toList ≠ l0[q].f0.toList) → ∀ j (hj : j < l0.length), i ≤ j → vok l0[j] = true ∧ ∀ m (hm : m < j), (l0[m]'(by omega)).f0.toList ≠ l0[j].f0.toList := by
        intro hv ⟨u1, u2⟩ j hj hij
        by_cases e : i = j
        · subst e; exact ⟨hv, u1⟩
        · exact u2 j hj (by omega)
      cases t1 with
      | false => rw [if_neg (by simp)] at h; exact absurd h (fun h => j2_true h)
      | true =>
        rw [if_pos rfl] at h
        have n1 : XC.nameB (bytesOf l0[i].f0) = true := by
          have := mono_le (cowrieref01_Name.mono _) (Nat.le_max_left k 1048578) e1
          rw [name_eq _ hbi.1 _ (Nat.le_max_right _ _)] at this
          exact Option.some.inj this
        obtain ⟨t2, e2, h⟩ := Option.bind_eq_some_iff.mp h
        by_cases h2 : t2 = 0
        · rw [if_pos h2] at h
          subst h2
          have n2 := text_ok hbi.2.1 e2
          obtain ⟨t3, e3, h⟩ := Option.bind_eq_some_iff.mp h
          by_cases h3 : t3 = 0
          · rw [if_pos h3] at h
            subst h3
            have n3 := texts_ok hsi hbi.2.2 e3
            by_cases h4 : (l0[i].f3.length : Int) > 1024
            · rw [if_pos h4] at h; exact absurd h (fun h => j2_true h)
            · rw [if_neg h4] at h
              have vk : (if l0[i].f2 = true then l0[i].f1.toList == [] else l0[i].f3.length == 0) = true → vok l0[i] = true := by
                intro hv
                unfold vok
                rw [n1, n2, n3, hv]; simp; omega
              by_cases h5 : l0[i].f2 = true
              · rw [if_pos h5] at h
                by_cases h6 : l0[i].f1.toList = []
                · rw [if_pos h6, if_pos h5] at h
                  exact fin (vk (by rw [if_pos h5]; simpa using h6)) (hj2 _ h).2
                · rw [if_neg h6] at h; exact absurd h (fun h => j2_true h)
              · rw [if_neg h5, if_neg h5] at h
                have := hj2 _ h
                exact fin (vk (by rw [if_neg h5]; have := this.1; simp at this; simp [this])) this.2
          · rw [if_neg h3] at h; exact absurd h (fun h => j2_true h)
        · rw [if_neg h2] at h; exact absurd h (fun h => j2_true h)
    · intro j hj hij; omega
  · rw [cowrieref20_Check.l1] at h
    by_cases hji : j < i
    · have hjl : j < l0.length := by omega
      rw [if_pos (by omega), if_pos (by omega), if_pos (by omega), rd_at l0 j hjl] at h
      by_cases hq : l0[j].f0.toList = l0[i].f0.toList
      · rw [if_pos hq] at h; simp at h
      · rw [if_neg hq, wrap_small (by omega)] at h
        obtain ⟨u1, u2⟩ := (ih k (by omega)).2 i (j + 1) hi (by omega) h
        refine ⟨fun m hm hjm => ?_, u2⟩
        by_cases e : j = m
        · subst e; exact hq
        · exact u1 m hm (by omega)
    · rw [if_neg (by omega), wrap_small (by omega)] at h
      have := (ih k (by omega)).1 (i + 1) (by omega) h
      exact ⟨fun m hm hjm => by omega, fun q hq hiq => this q hq hiq⟩
theorem check_ok {l0 : List S53} {l1 : List ByteArray} {st : Int} (hs : Sm l0) (hb : Bg l0) (h1 : l1.length ≤ 1048576) (g1 : ∀ s ∈ l1, s.size ≤ 1048576) {k : Nat} (h : cowrieref20_Check.f k l0 l1 st = some 0) : GoodL l0 ∧ restOk l0 l1 st = true := by
  have jt : ∀ k, ¬ cowrieref20_Check.j0 k true l0 l1 st = some 0 := by
    intro k h
    cases k with
    | zero => simp [cowrieref20_Check.j0] at h
    | succ k => rw [cowrieref20_Check.j0, if_pos rfl] at h; simp at h
  unfold cowrieref20_Check.f at h
  by_cases c1 : (l0.length : Int) > 1024
  · rw [if_pos c1] at h; exact absurd h (jt k)
  rw [if_neg c1] at h
  by_cases c2 : (l1.length : Int) > 1024
  · rw [if_pos c2] at h; exact absurd h (jt k)
  rw [if_neg c2] at h
  obtain ⟨t, e, h⟩ := Option.bind_eq_some_iff.mp h
  by_cases c3 : t = 0
  · rw [if_pos c3] at h
    subst c3
    have n3 := texts_ok h1 g1 e
    by_cases c4 : st < 0
    · rw [if_pos c4] at h; exact absurd h (jt k)
    rw [if_neg c4] at h
    cases hd : decide (st > 255)
    · rw [hd] at h
      cases k with
      | zero => simp [cowrieref20_Check.j0] at h
      | succ k =>
        rw [cowrieref20_Check.j0, if_neg (by simp)] at h
        have := (check_ok_k l0 l1 st (by omega) hs hb k).1 0 (by omega) h
        have hd' : ¬ st > 255 := by simpa using hd
        refine ⟨⟨fun x hx => ?_, ?_⟩, ?_⟩
        · obtain ⟨j, hj, rfl⟩ := List.mem_iff_getElem.1 hx
          exact (this j hj (by omega)).1
        · rw [List.pairwise_iff_getElem]
          intro i j hi hj hij
          exact (this j hj (by omega)).2 i hij
        · unfold restOk; rw [n3]; simp; omega
    · rw [hd] at h; exact absurd h (jt k)
  · rw [if_neg c3] at h; exact absurd h (jt k)
theorem checkV_good {l0 : List S53} {l1 : List ByteArray} {st : Int} (h : GoodL l0) (hr : restOk l0 l1 st = true) : checkV l0 l1 st = 0 := by
  unfold checkV
  rw [if_pos]
  refine ⟨?_, hr⟩
  rw [List.all_eq_true]
  intro j hj
  have hjl : j < l0.length := List.mem_range.1 hj
  unfold good
  rw [XC.getD_at l0 _ j hjl, h.1 _ (List.getElem_mem hjl)]
  have : seen (l0.take j) l0[j].f0.data.toList = false := by
    unfold seen
    rw [List.any_eq_false]
    intro x hx
    obtain ⟨m, hm, rfl⟩ := List.mem_iff_getElem.1 hx
    rw [List.length_take] at hm
    rw [List.getElem_take]
    have := (List.pairwise_iff_getElem.1 h.2) m j (by omega) hjl (by omega)
    rw [ByteArray.toList_eq, ByteArray.toList_eq] at this
    simpa using this
  rw [this]; rfl
theorem check_zero {l0 : List S53} {l1 : List ByteArray} {st : Int} (h : GoodL l0) (hr : restOk l0 l1 st = true) (hb : Bg l0) : vars_Check.f l0 l1 st = some 0 := by
  unfold vars_Check.f
  rw [if_pos, checkV_good h hr]
  rw [List.all_eq_true]
  intro x hx
  have := (hb x hx).1
  unfold maxLen
  simp; omega
theorem ask_ok {t : ByteArray} {k : Nat} (h : vars_ask.f k [t] = some 0) : texts_bad t = false := by
  unfold vars_ask.f at h
  cases k with
  | zero => simp [vars_ask.l0] at h
  | succ k =>
    rw [vars_ask.l0, if_pos (by simp), if_pos (by omega), if_pos (by simp)] at h
    unfold strings_IndexByte.f at h
    rw [Option.bind_some] at h
    have e : rdOf ByteArray.empty [t] 0 = t := rfl
    rw [e] at h
    split at h
    · simp at h
    · rename_i n1
      split at h
      · simp at h
      · rename_i n2
        unfold texts_bad
        rw [Bool.or_eq_false_iff]
        exact ⟨by simpa using n2, by simpa using n1⟩

/-! ### back_p3.tpl -/
def tv (name t : ByteArray) : S53 := ⟨name, t, false, []⟩
/-- what a store's variables are, behind Put -/
def PutX (l0 : List S53) (name t : ByteArray) (X : List S53) : Prop := (∃ i v, Has name l0 i v ∧ X = l0.set i (tv name t)) ∨ ((∀ x ∈ l0, isN name x = false) ∧ l0.length < 1024 ∧ X = l0 ++ [tv name t])
theorem put_form (l0 : List S53) (l1 : List ByteArray) (st : Int) (name t : ByteArray) (hs : Sm l0) (h1 : l1.length ≤ 1048576) (hz : name.size ≤ 1048576) (k : Nat) (hk : 1048578 ≤ k) :
    (∃ e, e ≠ 0 ∧ vars_Put.f k l0 l1 st name t = some ([], [], 0, e)) ∨
      ∃ X, vars_Put.f k l0 l1 st name t = some (X, l1, st, 0) ∧ XC.nameB (bytesOf name) = true ∧ texts_bad t = false ∧ PutX l0 name t X := by
  unfold vars_Put.f vars_Store_put.f
  rw [oName _ hz, Option.bind_some]
  by_cases hn : XC.nameB (bytesOf name) = true
  · obtain ⟨r, hr⟩ := ask_some [t] (by simp) k (by omega)
    rw [if_pos hn, hr, Option.bind_some]
    by_cases hr0 : r = 0
    · rw [if_pos hr0]
      subst hr0
      have ht := ask_ok hr
      rcases idx_cases name l0 with ⟨hi, hno⟩ | ⟨i, v, -, hh⟩
      · rw [with_miss hi hs h1]
        by_cases hc : 1024 ≤ l0.length
        · rw [if_pos hc]
          exact .inl ⟨17, by omega, rfl⟩
        · rw [if_neg hc]
          exact .inr ⟨_, rfl, hn, ht, .inr ⟨hno, by omega, rfl⟩⟩
      · rw [with_hit hh hs h1]
        exact .inr ⟨_, rfl, hn, ht, .inl ⟨i, v, hh, rfl⟩⟩
    · rw [if_neg hr0]
      exact .inl ⟨r, hr0, rfl⟩
  · rw [if_neg hn]
    exact .inl ⟨31, by omega, rfl⟩
theorem isN_tv (name t : ByteArray) : isN name (tv name t) = true := isN_mk name t false []
theorem isN_eq {name : ByteArray} {v : S53} : isN name v = true ↔ v.f0.toList = name.toList := by unfold isN; simp
theorem isN_ne {name : ByteArray} {v : S53} : isN name v = false ↔ v.f0.toList ≠ name.toList := by unfold isN; simp
theorem putX_has {l0 X : List S53} {name t : ByteArray} (h : PutX l0 name t X) : ∃ i, Has name X i (tv name t) := by
  rcases h with ⟨i, v, hh, rfl⟩ | ⟨hno, _, rfl⟩
  · exact ⟨i, has_set hh (isN_tv _ _)⟩
  · exact ⟨_, has_end hno (isN_tv _ _)⟩
theorem putX_mem {l0 X : List S53} {name t : ByteArray} (h : PutX l0 name t X) : ∀ x ∈ X, x = tv name t ∨ x ∈ l0 := by
  intro x hx
  rcases h with ⟨i, v, hh, rfl⟩ | ⟨hno, _, rfl⟩
  · exact (List.mem_or_eq_of_mem_set hx).symm
  · rcases List.mem_append.1 hx with hx | hx
    · exact .inr hx
    · exact .inl (by simpa using hx)
theorem putX_len {l0 X : List S53} {name t : ByteArray} (h : PutX l0 name t X) (hl : l0.length ≤ 1024) : X.length ≤ 1024 := by
  rcases h with ⟨i, v, hh, rfl⟩ | ⟨hno, hc, rfl⟩
  · simpa using hl
  · simp; omega
theorem vok_tv {name t : ByteArray} (hn : XC.nameB (bytesOf name) = true) (ht : texts_bad t = false) : vok (tv name t) = true := by
  unfold vok tv
  simp [hn, ht]
theorem putX_good {l0 X : List S53} {name t : ByteArray} (h : PutX l0 name t X) (hg : GoodL l0) (hn : XC.nameB (bytesOf name) = true) (ht : texts_bad t = false) : GoodL X := by
  refine ⟨fun x hx => ?_, ?_⟩
  · rcases putX_mem h x hx with rfl | hx
    · exact vok_tv hn ht
    · exact hg.1 x hx
  · have hp := hg.2
    rcases h with ⟨i, v, hh, rfl⟩ | ⟨hno, _, rfl⟩
    · rw [List.pairwise_iff_getElem] at hp ⊢
      have hi := hh.1
      have hvi : l0[i].f0.toList = name.toList := isN_eq.1 (by rw [hh.2.1]; exact hh.2.2.1)
      have hn' : (tv name t).f0.toList = name.toList := rfl
      intro a b ha hb hab
      rw [List.length_set] at ha hb
      have := hp a b ha hb hab
      by_cases ea : i = a
      · subst ea
        rw [List.getElem_set_self, List.getElem_set_ne (by omega), hn', ← hvi]; exact this
      · rw [List.getElem_set_ne ea]
        by_cases eb : i = b
        · subst eb
          rw [List.getElem_set_self, hn', ← hvi]; exact this
        · rw [List.getElem_set_ne eb]; exact this
    · rw [List.pairwise_append]
      refine ⟨hp, by simp, fun a ha b hb => ?_⟩
      obtain rfl : b = tv name t := by simpa using hb
      exact isN_ne.1 (hno a ha)
theorem putX_sm {l0 X : List S53} {name t : ByteArray} (h : PutX l0 name t X) (hs : Sm l0) (hl : l0.length ≤ 1024) : Sm X :=
  sm_put hs (putX_mem h) (by have := putX_len h hl; omega) (by simp [tv])
theorem putX_bg {l0 X : List S53} {name t : ByteArray} (h : PutX l0 name t X) (hb : Bg l0) (hz : name.size ≤ 1048576) (ht : t.size ≤ 1048576) : Bg X := by
  intro x hx
  rcases putX_mem h x hx with rfl | hx
  · exact ⟨hz, ht, by simp [tv]⟩
  · exact hb x hx
/-- a name that is found in the one as in the other, or in none -/
def SameF (other : ByteArray) (X l0 : List S53) : Prop := (XC.idxI (isN other) X = -1 ∧ XC.idxI (isN other) l0 = -1) ∨ ∃ i v, Has other X i v ∧ Has other l0 i v
theorem idx_none {name : ByteArray} {l : List S53} (h : ∀ x ∈ l, isN name x = false) : XC.idxI (isN name) l = -1 := by
  rcases idx_cases name l with ⟨h, _⟩ | ⟨i, v, _, hh⟩
  · exact h
  · have := h _ (List.getElem_mem hh.1)
    rw [hh.2.1, hh.2.2.1] at this
    exact absurd this (by simp)
theorem putX_same {l0 X : List S53} {name t other : ByteArray} (h : PutX l0 name t X) (hne : other.toList ≠ name.toList) : SameF other X l0 := by
  have htv : isN other (tv name t) = false := isN_ne.2 (fun e => hne e.symm)
  rcases idx_cases other l0 with ⟨hi, hno⟩ | ⟨i, v, -, hh⟩
  · refine .inl ⟨idx_none (fun x hx => ?_), hi⟩
    rcases putX_mem h x hx with rfl | hx
    · exact htv
    · exact hno x hx
  · refine .inr ⟨i, v, ?_, hh⟩
    obtain ⟨hl, hv, hn, hj⟩ := hh
    rcases h with ⟨i0, v0, hh0, rfl⟩ | ⟨hno, _, rfl⟩
    · have hi0 := hh0.1
      have h0 : isN name (l0[i0]'hi0) = true := by rw [hh0.2.1]; exact hh0.2.2.1
      have ne : i0 ≠ i := by
        intro e; subst e
        rw [hv] at h0
        exact hne ((isN_eq.1 hn).symm.trans (isN_eq.1 h0))
      refine ⟨by simpa using hl, by rw [List.getElem_set_ne ne]; exact hv, hn, fun j hji => ?_⟩
      by_cases e : i0 = j
      · subst e; rw [List.getElem_set_self]; exact htv
      · rw [List.getElem_set_ne e]; exact hj j hji
    · refine ⟨by simp; omega, by rw [List.getElem_append_left hl]; exact hv, hn, fun j hji => ?_⟩
      rw [List.getElem_append_left (by omega)]; exact hj j hji
theorem not_one {name : ByteArray} (h : XC.nameB (bytesOf name) = true) (c : UInt8) (hc : XC.nameB [(c.toNat : Int)] = false) : name.toList ≠ ([c] : List UInt8) := by
  intro e
  have e2 : bytesOf name = [(c.toNat : Int)] := by
    unfold bytesOf
    rw [← ByteArray.toList_eq, e]; rfl
  rw [e2, hc] at h
  exact absurd h (by simp)
theorem not_digits {name : ByteArray} (h : XC.nameB (bytesOf name) = true) : XC.digitsB (bytesOf name) = false := by
  unfold XC.nameB at h
  unfold XC.digitsB
  simp only [Bool.and_eq_true, decide_eq_true_eq] at h
  obtain ⟨⟨_, h2, _⟩, h4⟩ := h
  cases hb : bytesOf name with
  | nil => rw [hb] at h2; simp at h2
  | cons x r =>
    rw [hb] at h4
    simp at h4
    simp [h4]
theorem oDigits (name : ByteArray) (h : name.size ≤ 1048576) : octets_Digits.f name = some (XC.digitsB (bytesOf name)) := by
  unfold octets_Digits.f; rw [if_pos (by omega)]
theorem text_head {X : List S53} {l1 : List ByteArray} {st : Int} {name : ByteArray} (hn : XC.nameB (bytesOf name) = true) (hz : name.size ≤ 1048576) (k : Nat) : vars_Text.f k X l1 st name = if XC.idxI (isN name) X < 0 then vars_Text.j0 k (XC.idxI (isN name) X) true X l1 st else vars_Text.j0 k (XC.idxI (isN name) X) false X l1 st := by
  unfold vars_Text.f
  rw [if_neg (not_one hn 35 (by decide)), if_neg (not_one hn 63 (by decide)), if_neg (not_one hn 64 (by decide)), if_neg (not_one hn 42 (by decide)), oDigits _ hz, not_digits hn, Option.bind_some, if_neg (by simp), find_eq, Option.bind_some, oName _ hz, hn]
  rfl
theorem text_hit {X : List S53} {l1 : List ByteArray} {st : Int} {name t : ByteArray} {i : Nat} (hh : Has name X i (tv name t)) (hn : XC.nameB (bytesOf name) = true) (hz : name.size ≤ 1048576) (k : Nat) (hk : 1 ≤ k) : vars_Text.f k X l1 st name = some (t, true) := by
  obtain ⟨k, rfl⟩ : ∃ k', k = k' + 1 := ⟨k - 1, by omega⟩
  have hi := hh.1
  rw [text_head hn hz, idx_has hh, if_neg (by omega), vars_Text.j0, if_neg (by simp), if_pos (by omega), if_pos (by omega), rd_at X i hi, hh.2.1]
  rfl
theorem text_miss {X : List S53} {l1 : List ByteArray} {st : Int} {name : ByteArray} (hh : ∀ x ∈ X, isN name x = false) (hn : XC.nameB (bytesOf name) = true) (hz : name.size ≤ 1048576) (k : Nat) (hk : 1 ≤ k) : vars_Text.f k X l1 st name = some (⟨#[]⟩, false) := by
  obtain ⟨k, rfl⟩ : ∃ k', k = k' + 1 := ⟨k - 1, by omega⟩
  rw [text_head hn hz, idx_none hh, if_pos (by omega), vars_Text.j0, if_pos rfl]

/-! ### back_p4.tpl -/
theorem u64w {n : Int} (h0 : 0 ≤ n) (h1 : n < 18446744073709551616) : IntKind.u64.wrap n = n := by
  have : IntKind.u64.wrap n = n % 18446744073709551616 := rfl
  rw [this]; omega
theorem word_dec : ∀ (N : Nat) (n : Nat), n ≤ N → n ≤ 1048576 → ∀ k, N < k → ∃ r, cowrieref04_word.f k (n : Int) = some r ∧ r.data.toList = (strOfNums (XC.decI n)).data.toList := by
  intro N
  induction N with
  | zero =>
    intro n hn hm k hk
    obtain ⟨k, rfl⟩ : ∃ k', k = k' + 1 := ⟨k - 1, by omega⟩
    rw [cowrieref04_word.f, if_pos (by omega), XC.decI_small (by omega), u64w (by omega) (by omega)]
    refine ⟨_, rfl, ?_⟩
    rw [Int.emod_eq_of_lt (by omega) (by omega)]
  | succ N ih =>
    intro n hn hm k hk
    obtain ⟨k, rfl⟩ : ∃ k', k = k' + 1 := ⟨k - 1, by omega⟩
    by_cases h10 : n < 10
    · rw [cowrieref04_word.f, if_pos (by omega), XC.decI_small h10, u64w (by omega) (by omega)]
      refine ⟨_, rfl, ?_⟩
      rw [Int.emod_eq_of_lt (by omega) (by omega)]
    · rw [cowrieref04_word.f, if_neg (by omega)]
      have e1 : Int.tdiv (n : Int) 10 = ((n / 10 : Nat) : Int) := by rw [Int.tdiv_eq_ediv_of_nonneg (by omega)]; omega
      have e2 : Int.tmod (n : Int) 10 = ((n % 10 : Nat) : Int) := by rw [Int.tmod_eq_emod_of_nonneg (by omega)]; omega
      rw [e1, e2, u64w (by omega) (by omega), u64w (by omega) (by omega)]
      obtain ⟨r, hr, hd⟩ := ih (n / 10) (by omega) (by omega) k (by omega)
      have hz : r.size ≤ 20 := by
        have h3 : r.data.toList.length = r.size := by rw [Array.length_toList]; rfl
        rw [hd, strOfNums_data, List.length_map] at h3
        have := (XC.decI_len 19 (n / 10) (by omega)).2
        omega
      have hz2 : (strOfNums [(48 + ((n % 10 : Nat) : Int)) % 256]).size = 1 := by rw [strOfNums_size]; rfl
      rw [hr, Option.bind_some, Option.bind_some, if_pos (by rw [hz2]; omega)]
      refine ⟨_, rfl, ?_⟩
      rw [XC.decI_big h10, strOfNums_data, List.map_append, ByteArray.data_append, Array.toList_append, hd, strOfNums_data, strOfNums_data, Int.emod_eq_of_lt (by omega) (by omega)]
theorem print_same (n : Nat) (hn : n ≤ 1048576) (k : Nat) (hk : 1048577 ≤ k) : ∃ a b, number_Print.f (n : Int) = some a ∧ cowrieref04_Print.f k (n : Int) = some b ∧ a.toList = b.toList := by
  obtain ⟨r, hr, hd⟩ := word_dec n n (Nat.le_refl _) hn k (by omega)
  refine ⟨strOfNums (XC.decimal (n : Int)), r, ?_, ?_, ?_⟩
  · unfold number_Print.f; rw [if_pos (by omega)]
  · unfold cowrieref04_Print.f
    rw [if_neg (by omega), u64w (by omega) (by omega), hr, Option.bind_some]
  · rw [ByteArray.toList_eq, ByteArray.toList_eq, hd]
    unfold XC.decimal
    rw [if_neg (by omega), Int.toNat_natCast]
theorem dlen (s : ByteArray) : s.data.toList.length = s.size := by rw [Array.length_toList]; rfl
theorem join_l (l : List ByteArray) (hl : l.length ≤ 1048576) (hs : ∀ s ∈ l, s.size ≤ 1048576) : ∀ n i k (acc : ByteArray), 1 ≤ i → i + n = l.length → n < k → acc.size ≤ i * 1048577 → ∃ r, cowrieref20_joined.l0 k l acc (i : Int) = some r ∧ r.data.toList = acc.data.toList ++ Lib.joinTail [32] ((l.drop i).map (·.data.toList)) := by
  intro n
  induction n with
  | zero =>
    intro i k acc h1 hi hk ha
    obtain ⟨k, rfl⟩ : ∃ k', k = k' + 1 := ⟨k - 1, by omega⟩
    rw [cowrieref20_joined.l0, if_neg (by omega), List.drop_of_length_le (by omega)]
    exact ⟨_, rfl, by simp [Lib.joinTail]⟩
  | succ n ih =>
    intro i k acc h1 hi hk ha
    obtain ⟨k, rfl⟩ : ∃ k', k = k' + 1 := ⟨k - 1, by omega⟩
    have hil : i < l.length := by omega
    have hsz := hs _ (List.getElem_mem hil)
    have ha2 : acc.size ≤ 1048576 * 1048577 := Nat.le_trans ha (Nat.mul_le_mul (by omega) (Nat.le_refl _))
    have hz : (acc ++ (⟨#[32]⟩ : ByteArray)).size = acc.size + 1 := by rw [ByteArray.size_append]; rfl
    rw [cowrieref20_joined.l0, if_pos (by omega), if_pos (by omega), if_pos (by omega), if_pos (by omega), rdOf_at l i hil, if_pos (by rw [hz]; omega), wrap_small (by omega)]
    obtain ⟨r, hr, hd⟩ := ih (i + 1) k (acc ++ (⟨#[32]⟩ : ByteArray) ++ l[i]) (by omega) (by omega) (by omega) (by rw [ByteArray.size_append, hz, Nat.add_mul]; omega)
    refine ⟨r, hr, ?_⟩
    rw [hd, List.drop_eq_getElem_cons hil]
    simp only [List.map_cons, Lib.joinTail, List.flatten_cons, ByteArray.data_append, Array.toList_append, List.append_assoc]
theorem joinTail_len (l : List ByteArray) (hs : ∀ s ∈ l, s.size ≤ 1048576) : (Lib.joinTail [32] (l.map (·.data.toList))).length ≤ l.length * 1048577 := by
  induction l with
  | nil => simp [Lib.joinTail]
  | cons x l ih =>
    have h1 := ih (fun s h => hs s (by simp [h]))
    have h2 := hs x (by simp)
    unfold Lib.joinTail at h1 ⊢
    simp only [List.map_cons, List.flatten_cons, List.length_append, List.length_cons, List.length_nil, dlen] at h1 ⊢
    rw [Nat.add_mul]; omega
theorem join_same (l : List ByteArray) (hl : l.length ≤ 1024) (hs : ∀ s ∈ l, s.size ≤ 1048576) (k : Nat) (hk : 1048578 ≤ k) : ∃ a b, strings_Join.f l ⟨#[32]⟩ = some a ∧ cowrieref20_joined.f k l = some b ∧ a.toList = b.toList := by
  have hq : (Lib.join (l.map (·.data.toList)) [32]).length ≤ 1024 * 1048577 ∧ ∃ b, cowrieref20_joined.f k l = some b ∧ b.data.toList = Lib.join (l.map (·.data.toList)) [32] := by
    obtain ⟨k, rfl⟩ : ∃ k', k = k' + 1 := ⟨k - 1, by omega⟩
    unfold cowrieref20_joined.f
    rw [cowrieref20_joined.l0]
    cases l with
    | nil => exact ⟨by simp [Lib.join_nil], _, rfl, by simp [Lib.join_nil]⟩
    | cons x l =>
      have hx := hs x (by simp)
      have e : rdOf ByteArray.empty (x :: l) 0 = x := rfl
      have hw : wrap64 (0 + 1) = ((1 : Nat) : Int) := wrap_small (i := 0) (by omega)
      have hxs : ((⟨#[]⟩ : ByteArray) ++ x).size = x.size := by rw [ByteArray.size_append]; show 0 + x.size = _; omega
      have hz0 : (⟨#[]⟩ : ByteArray).size = 0 := rfl
      rw [if_pos (by simp only [List.length_cons]; omega), if_neg (by omega), if_pos (by omega), e, if_pos (by rw [hz0]; omega), hw]
      obtain ⟨r, hr, hd⟩ := join_l (x :: l) (by have := hl; omega) hs l.length 1 k ((⟨#[]⟩ : ByteArray) ++ x) (by omega) (by simp; omega) (by simp at hl; omega) (by rw [hxs]; omega)
      have hjt := joinTail_len l (fun s h => hs s (by simp [h]))
      rw [List.map_cons, Lib.join_cons]
      refine ⟨?_, r, hr, ?_⟩
      · rw [List.length_append, dlen]
        have : l.length * 1048577 ≤ 1023 * 1048577 := Nat.mul_le_mul (by simp at hl; omega) (Nat.le_refl _)
        omega
      · rw [hd]; simp [ByteArray.data_append, Array.toList_append]
  obtain ⟨h1, b, hb, hd⟩ := hq
  refine ⟨⟨(Lib.join (l.map (·.data.toList)) [32]).toArray⟩, b, ?_, hb, ?_⟩
  · unfold strings_Join.f
    have e : (⟨#[32]⟩ : ByteArray).data.toList = [32] := rfl
    rw [e, if_pos (by omega), if_pos (by omega)]
  · rw [ByteArray.toList_eq, ByteArray.toList_eq, hd]

/-! ### back_p5.tpl -/
def dstep (n c : Int) : Int := IntKind.u64.wrap (IntKind.u64.wrap (n * 10) + (c - 48))
def dv (l : List Int) (n : Int) : Int := l.foldl dstep n
theorem digC_at {c : Int} (h : XC.digC c = true) : digC 10 c = c - 48 := by
  unfold XC.digC at h
  have h : 48 ≤ c ∧ c ≤ 57 := by simpa using h
  have : c = 48 ∨ c = 49 ∨ c = 50 ∨ c = 51 ∨ c = 52 ∨ c = 53 ∨ c = 54 ∨ c = 55 ∨ c = 56 ∨ c = 57 := by omega
  rcases this with rfl | rfl | rfl | rfl | rfl | rfl | rfl | rfl | rfl | rfl <;> decide +kernel
theorem dig_rng {c : Int} (h : XC.digC c = true) : 48 ≤ c ∧ c ≤ 57 := by
  unfold XC.digC at h; simpa using h
theorem digGo_dig (l : List Int) (h : l.all XC.digC = true) : ∀ n, digGo 10 l n = some (dv l n) := by
  induction l with
  | nil => intro n; rfl
  | cons c l ih =>
    intro n
    rw [List.all_cons, Bool.and_eq_true] at h
    have := dig_rng h.1
    rw [digGo, digC_at h.1, if_neg (by omega), ih h.2]
    rfl
theorem dv_ge (l : List Int) (h : l.all XC.digC = true) : ∀ n, 0 ≤ n → (n + 1) * 10 ^ l.length ≤ 1000000 → n ≤ dv l n ∧ dv l n < 1000000 := by
  induction l with
  | nil => intro n h0 h1; simp at h1; exact ⟨Int.le_refl _, by show n < _; omega⟩
  | cons c l ih =>
    intro n h0 h1
    rw [List.all_cons, Bool.and_eq_true] at h
    have hc := dig_rng h.1
    have hp : (0 : Int) < 10 ^ l.length := Int.pow_pos (by omega)
    rw [List.length_cons, Int.pow_succ] at h1
    have h2 : (n * 10 + 9 + 1) * 10 ^ l.length ≤ 1000000 := by
      have e : (n * 10 + 9 + 1) * 10 ^ l.length = (n + 1) * (10 ^ l.length * 10) := by rw [Int.mul_comm (10 ^ l.length) 10, ← Int.mul_assoc]; congr 1; omega
      rw [e]; exact h1
    have h3 : n * 10 + 9 + 1 ≤ 1000000 := by
      have : (n * 10 + 9 + 1) * 1 ≤ (n * 10 + 9 + 1) * 10 ^ l.length := Int.mul_le_mul_of_nonneg_left (by omega) (by omega)
      omega
    have hs : dstep n c = n * 10 + (c - 48) := by
      unfold dstep
      rw [u64w (n := n * 10) (by omega) (by omega), u64w (by omega) (by omega)]
    have h4 : (n * 10 + (c - 48) + 1) * 10 ^ l.length ≤ 1000000 := by
      have : (n * 10 + (c - 48) + 1) * 10 ^ l.length ≤ (n * 10 + 9 + 1) * 10 ^ l.length := Int.mul_le_mul_of_nonneg_right (by omega) (by omega)
      omega
    have := ih h.2 (n * 10 + (c - 48)) (by omega) h4
    show n ≤ dv l (dstep n c) ∧ dv l (dstep n c) < 1000000
    rw [hs]; omega
theorem dv_zeros (m : Nat) (l : List Int) : dv (List.replicate m 48 ++ l) 0 = dv l 0 := by
  induction m with
  | zero => rfl
  | succ m ih =>
    rw [List.replicate_succ, List.cons_append]
    have e : dstep 0 48 = 0 := by decide +kernel
    show dv _ (dstep 0 48) = _
    rw [e]; exact ih
theorem ref_digits_l (s : ByteArray) (hs : s.size ≤ 1048576) (h : (bytesOf s).all XC.digC = true) : ∀ n i k x, i + n = s.size → 2 * n < k → cowrieref04_digits.l0 k s 10 x (i : Int) = some (dv ((bytesOf s).drop i) x, decide ((s.size : Int) > 0)) := by
  intro n
  induction n with
  | zero =>
    intro i k x hi hk
    obtain ⟨k, rfl⟩ : ∃ k', k = k' + 1 := ⟨k - 1, by omega⟩
    rw [cowrieref04_digits.l0, if_neg (by omega), List.drop_of_length_le (by rw [bytesOf_length]; omega)]
    rfl
  | succ n ih =>
    intro i k x hi hk
    obtain ⟨k, rfl⟩ : ∃ k', k = k' + 1 + 1 := ⟨k - 2, by omega⟩
    have hb := XC.bytes_drop s i (by omega)
    have hd : XC.digC (bt s i) = true := by
      rw [List.all_eq_true] at h
      exact h _ (List.mem_of_mem_drop (i := i) (by rw [hb]; simp))
    have hr := dig_rng hd
    rw [cowrieref04_digits.l0, if_pos (by omega), if_pos (by omega), if_pos (by omega), decide_eq_true (by omega : bt s (i : Int) ≤ 57), cowrieref04_digits.j1, if_pos rfl, Int.emod_eq_of_lt (by omega) (by omega), if_neg (by omega), wrap_small (by omega), ih (i + 1) k _ (by omega) (by omega), hb]
    rfl
theorem hasP_no (s : ByteArray) (c : UInt8) (h : bt s 0 ≠ (c.toNat : Int)) (h0 : 0 < s.size) : stringslite_HasPrefix.f s ⟨#[c]⟩ = some false := by
  unfold stringslite_HasPrefix.f
  have e : (⟨#[c]⟩ : ByteArray).size = 1 := rfl
  rw [e, if_pos (by omega), if_pos (by omega), if_pos (by omega)]
  congr 1
  rw [beq_eq_false_iff_ne]
  intro hq
  apply h
  have hb := XC.bytes_drop s 0 h0
  rw [List.drop_zero] at hb
  have hq2 : (s.data.toList.take 1) = [c] := by
    rw [ByteArray.toList_eq, ByteArray.toList_eq, Lib.extract_data] at hq
    simpa using hq
  unfold bytesOf at hb
  cases hl : s.data.toList with
  | nil => rw [hl] at hq2; simp at hq2
  | cons x r =>
    rw [hl] at hb hq2
    simp at hq2 hb
    rw [← hb, hq2]
theorem dropWhile_none {α : Type} (p : α → Bool) (l : List α) (h : ∀ b ∈ l, p b = false) : l.dropWhile p = l := by
  cases l with
  | nil => rfl
  | cons x r => rw [List.dropWhile_cons, h x (by simp)]; rfl
theorem back_data (s : ByteArray) : (⟨s.data.toList.toArray⟩ : ByteArray) = s := by
  cases s; simp
theorem dig_byte {s : ByteArray} (h : (bytesOf s).all XC.digC = true) : ∀ b ∈ s.data.toList, 48 ≤ b.toNat ∧ b.toNat ≤ 57 := by
  intro b hb
  rw [List.all_eq_true] at h
  have := dig_rng (h (b.toNat : Int) (by unfold bytesOf; exact List.mem_map.2 ⟨b, hb, rfl⟩))
  omega
theorem bt0_dig {s : ByteArray} (h : (bytesOf s).all XC.digC = true) (h0 : 0 < s.size) : 48 ≤ bt s 0 ∧ bt s 0 ≤ 57 := by
  have hb := XC.bytes_drop s 0 h0
  rw [List.drop_zero] at hb
  rw [List.all_eq_true] at h
  exact dig_rng (h _ (by rw [hb]; exact List.mem_cons_self))
theorem ps_digits (s : ByteArray) (hs : s.size ≤ 1048576) (h : (bytesOf s).all XC.digC = true) (h0 : 0 < s.size) : number_Parse.f s = some (wrap64 (dv (bytesOf s) 0), 0) := by
  have hd := dig_byte h
  have hb := bt0_dig h h0
  have ht : strings_Trim.f s ⟨#[32, 9]⟩ = some s := by
    unfold strings_Trim.f
    have e : (⟨#[32, 9]⟩ : ByteArray).data.toList = [32, 9] := rfl
    have e2 : (⟨#[32, 9]⟩ : ByteArray).size = 2 := rfl
    have hn : ∀ b ∈ s.data.toList, ([32, 9] : List UInt8).contains b = false := by
      intro b hb
      have := hd b hb
      rw [List.contains_eq_any_beq, List.any_eq_false]
      intro x hx
      have : x = 32 ∨ x = 9 := by simpa using hx
      intro hq
      have hq : b = x := by simpa using hq
      subst hq
      rcases this with rfl | rfl
      · have e : (32 : UInt8).toNat = 32 := rfl
        omega
      · have e : (9 : UInt8).toNat = 9 := rfl
        omega
    rw [e, e2, if_pos ⟨by omega, by omega, by decide⟩]
    unfold Lib.trimS Lib.trimRightS Lib.trimLeftS
    rw [dropWhile_none _ s.data.toList.reverse (fun b hb => hn b (by simpa using hb)), List.reverse_reverse, dropWhile_none _ _ hn, back_data]
  unfold number_Parse.f number_sign.f strings_CutPrefix.f stringslite_CutPrefix.f strings_TrimPrefix.f stringslite_TrimPrefix.f
  rw [ht, Option.bind_some, hasP_no s 45 (by intro e; rw [e] at hb; exact absurd hb.1 (by decide)) h0]
  simp only [Option.bind_some]
  rw [hasP_no s 43 (by intro e; rw [e] at hb; exact absurd hb.1 (by decide)) h0]
  simp only [Option.bind_some, Bool.false_eq_true, if_false]
  unfold number_digits.f
  rw [if_pos ⟨by omega, by omega, by omega⟩, digGo_dig _ h]
  simp [h0]

/-! ### back_p6.tpl -/
theorem ref_trim (s : ByteArray) (h : (bytesOf s).all XC.digC = true) (hs : s.size ≤ 1048576) (k : Nat) (hk : 4 ≤ k) : cowrieref04_Trim.f k s = some s := by
  obtain ⟨k, rfl⟩ : ∃ k', k = k' + 1 + 1 + 1 := ⟨k - 3, by omega⟩
  have hl1 : cowrieref04_Trim.l1 (k + 1) s = some s := by
    rw [cowrieref04_Trim.l1]
    by_cases h0 : 0 < s.size
    · have hw : wrap64 ((s.size : Int) - 1) = ((s.size - 1 : Nat) : Int) := by
        have : ((s.size : Int) - 1) = ((s.size - 1 : Nat) : Int) := by omega
        rw [this]; unfold wrap64; omega
      have hb := XC.bytes_drop s (s.size - 1) (by omega)
      have hd : 48 ≤ bt s ((s.size - 1 : Nat) : Int) ∧ bt s ((s.size - 1 : Nat) : Int) ≤ 57 := by
        rw [List.all_eq_true] at h
        exact dig_rng (h _ (List.mem_of_mem_drop (i := s.size - 1) (by rw [hb]; simp)))
      rw [if_pos (by omega), hw, if_pos (by omega), if_pos (by omega), if_neg (by omega), if_neg (by omega)]
    · rw [if_neg (by omega)]
  have hj1 : cowrieref04_Trim.j1 (k + 1 + 1) s = some s := by rw [cowrieref04_Trim.j1, hl1]
  unfold cowrieref04_Trim.f
  rw [cowrieref04_Trim.l0]
  by_cases h0 : 0 < s.size
  · have hd := bt0_dig h h0
    rw [if_pos (by omega), if_pos (by omega), if_neg (by omega), if_neg (by omega), hj1]
  · rw [if_neg (by omega), hj1]
theorem ref_parse (s : ByteArray) (h : (bytesOf s).all XC.digC = true) (hs : s.size ≤ 1048576) (k : Nat) (hk : 3000000 ≤ k) : ∃ e, cowrieref04_Parse.f k s = some (if 0 < s.size then wrap64 (dv (bytesOf s) 0) else 0, e) := by
  obtain ⟨k, rfl⟩ : ∃ k', k = k' + 1 + 1 + 1 := ⟨k - 3, by omega⟩
  have hdg := ref_digits_l s hs h s.size 0 k 0 (by omega) (by omega)
  have hj : ∃ e, cowrieref04_Parse.j0 (k + 1 + 1 + 1) s false = some (if 0 < s.size then wrap64 (dv (bytesOf s) 0) else 0, e) := by
    rw [cowrieref04_Parse.j0, if_neg (by simp)]
    by_cases h0 : 0 < s.size
    · have hd := bt0_dig h h0
      have e43 : (bt s 0 == 43) = false := by rw [beq_eq_false_iff_ne]; omega
      rw [if_pos (by omega), if_pos (by omega), e43, cowrieref04_Parse.j1, if_neg (by simp), cowrieref04_Parse.j2]
      unfold cowrieref04_digits.f
      rw [show cowrieref04_digits.l0 k s 10 0 0 = _ from hdg, Option.bind_some, List.drop_zero, if_pos h0]
      simp only []
      rw [if_pos (by rw [decide_eq_true_eq]; omega), if_neg (by simp)]
      exact ⟨_, rfl⟩
    · rw [if_neg (by omega), cowrieref04_Parse.j1, if_neg (by simp), cowrieref04_Parse.j2]
      unfold cowrieref04_digits.f
      rw [show cowrieref04_digits.l0 k s 10 0 0 = _ from hdg, Option.bind_some, if_neg h0]
      simp only []
      rw [if_neg (by rw [decide_eq_true_eq]; omega)]
      exact ⟨_, rfl⟩
  unfold cowrieref04_Parse.f
  rw [ref_trim s h hs _ (by omega), Option.bind_some]
  by_cases h0 : 0 < s.size
  · have hd := bt0_dig h h0
    have e45 : (bt s 0 == 45) = false := by rw [beq_eq_false_iff_ne]; omega
    rw [if_pos (by omega), if_pos (by omega), e45]
    exact hj
  · rw [if_neg (by omega)]; exact hj
def z48 (b : UInt8) : Bool := ([48] : List UInt8).contains b
theorem z48_eq (b : UInt8) : z48 b = (b == 48) := by rw [Bool.eq_iff_iff]; unfold z48; simp
theorem dw_nil {α : Type} (p : α → Bool) (l : List α) : l.dropWhile p = [] ↔ ∀ x ∈ l, p x = true := by
  induction l with
  | nil => simp
  | cons a l ih =>
    rw [List.dropWhile_cons]
    by_cases h : p a = true
    · rw [if_pos h, ih]; simp [h]
    · rw [if_neg h]; simp [h]
theorem dw_not {α : Type} (p : α → Bool) (l : List α) (x : α) (r : List α) (hq : l.dropWhile p = x :: r) : p x = false := by
  induction l with
  | nil => simp at hq
  | cons a l ih =>
    rw [List.dropWhile_cons] at hq
    by_cases h : p a = true
    · rw [if_pos h] at hq; exact ih hq
    · rw [if_neg h] at hq
      injection hq with h1 _
      rw [← h1]; simpa using h
theorem bytesOf_drop (s : ByteArray) (a : Nat) : bytesOf (s.extract a s.size) = (bytesOf s).drop a := by
  unfold bytesOf; rw [Lib.extract_to_end, List.map_drop]
theorem ref_arg_l (l0 : List S53) (l1 : List ByteArray) (st : Int) (M : Nat) : ∀ n (s : ByteArray) k, s.size = n → n + M < k → ∃ k' s', M ≤ k' ∧ s'.data.toList = s.data.toList.dropWhile z48 ∧ cowrieref20_argument.l0 k s l0 l1 st = cowrieref20_argument.j1 k' s' l0 l1 st := by
  intro n
  induction n with
  | zero =>
    intro s k hn hk
    obtain ⟨k, rfl⟩ : ∃ k', k = k' + 1 := ⟨k - 1, by omega⟩
    have : s.data.toList = [] := List.length_eq_zero_iff.1 (by rw [dlen]; exact hn)
    rw [cowrieref20_argument.l0, if_neg (by omega)]
    exact ⟨k, s, by omega, by rw [this]; rfl, rfl⟩
  | succ n ih =>
    intro s k hn hk
    obtain ⟨k, rfl⟩ : ∃ k', k = k' + 1 := ⟨k - 1, by omega⟩
    have hb := XC.bytes_drop s 0 (by omega)
    rw [List.drop_zero] at hb
    rw [cowrieref20_argument.l0, if_pos (by omega), if_pos (by omega)]
    cases hl : s.data.toList with
    | nil => have := dlen s; rw [hl] at this; simp at this; omega
    | cons x r =>
      have hx : bt s 0 = (x.toNat : Int) := by
        unfold bytesOf at hb; rw [hl] at hb; simp at hb; exact hb.symm
      by_cases h48 : bt s 0 = 48
      · have hx2 : x = 48 := by
          have h3 : x.toNat = 48 := by omega
          exact UInt8.toNat_inj.1 h3
        have hd1 : (s.extract 1 s.size).data.toList = r := by rw [Lib.extract_to_end, hl]; rfl
        have hsz : (s.extract 1 s.size).size = n := by
          rw [← dlen, hd1]; have := dlen s; rw [hl] at this; simp at this; omega
        rw [if_pos h48, if_pos (by omega)]
        obtain ⟨k', s', h1, h2, h3⟩ := ih _ k hsz (by omega)
        refine ⟨k', s', h1, ?_, h3⟩
        rw [h2, hd1, List.dropWhile_cons, z48_eq, hx2]; rfl
      · have hx2 : (x == 48) = false := by
          rw [beq_eq_false_iff_ne]; intro e; subst e; exact h48 hx
        rw [if_neg h48]
        exact ⟨k, s, by omega, by rw [hl, List.dropWhile_cons, z48_eq, hx2]; rfl, rfl⟩
theorem drop_split (L : List UInt8) : ∃ m, L = List.replicate m 48 ++ L.dropWhile z48 := by
  induction L with
  | nil => exact ⟨0, rfl⟩
  | cons x r ih =>
    rw [List.dropWhile_cons, z48_eq]
    by_cases h : x = 48
    · obtain ⟨m, hm⟩ := ih
      refine ⟨m + 1, ?_⟩
      subst h
      rw [if_pos (by simp), List.replicate_succ, List.cons_append, ← hm]
    · rw [if_neg (by simpa using h)]; exact ⟨0, rfl⟩
theorem trimS_nil (L : List UInt8) : Lib.trimS L [48] = [] ↔ L.dropWhile z48 = [] := by
  have hf : (([48] : List UInt8).contains ·) = z48 := rfl
  unfold Lib.trimS Lib.trimRightS Lib.trimLeftS
  rw [hf]
  rw [dw_nil z48 L, dw_nil]
  constructor
  · intro h
    have hd : L.reverse.dropWhile z48 = [] := by
      cases hq : L.reverse.dropWhile z48 with
      | nil => rfl
      | cons x r =>
        have h1 := h x (by rw [hq]; simp)
        have h2 := dw_not z48 L.reverse x r hq
        rw [h1] at h2; exact absurd h2 (by simp)
    rw [dw_nil] at hd
    intro x hx; exact hd x (by simpa using hx)
  · intro h x hx
    have : x ∈ L.reverse := (List.dropWhile_sublist z48).mem (by simpa using hx)
    exact h x (by simpa using this)
theorem dw_head (L : List UInt8) (x : UInt8) (r : List UInt8) (h : L.dropWhile z48 = x :: r) : x ≠ 48 := by
  have h2 := dw_not z48 L x r h
  intro e; subst e; exact absurd h2 (by decide)

/-! ### back_p7.tpl -/
theorem ten_le (n : Nat) (h : n ≤ 4) : (10 : Int) ^ n ≤ 10000 := by
  have : n = 0 ∨ n = 1 ∨ n = 2 ∨ n = 3 ∨ n = 4 := by omega
  rcases this with rfl | rfl | rfl | rfl | rfl <;> decide
theorem arg_same (X l0 : List S53) (l1 : List ByteArray) (st : Int) (other : ByteArray) (hd : XC.digitsB (bytesOf other) = true) (hz : other.size ≤ 1048576) (hl : l1.length ≤ 1024) (k : Nat) (hk : 4100000 ≤ k) :
    ∃ a b f, vars_Store_argument.f X l1 st other = some (a, f) ∧ cowrieref20_argument.f k l0 l1 st other = some (b, f) ∧ a.toList = b.toList := by
  unfold XC.digitsB at hd
  rw [Bool.and_eq_true, decide_eq_true_eq, bytesOf_length] at hd
  obtain ⟨hpos, hall⟩ := hd
  obtain ⟨k', s', hk', hs', href⟩ := ref_arg_l l0 l1 st 3000001 other.size other k rfl (by omega)
  obtain ⟨k', rfl⟩ : ∃ q, k' = q + 1 := ⟨k' - 1, by omega⟩
  obtain ⟨m, hm⟩ := drop_split other.data.toList
  rw [← hs'] at hm
  have hbo : bytesOf other = List.replicate m 48 ++ bytesOf s' := by
    unfold bytesOf
    rw [hm, List.map_append, List.map_replicate]
    simp
  have hall' : (bytesOf s').all XC.digC = true := by
    rw [hbo, List.all_append, Bool.and_eq_true] at hall; exact hall.2
  have hsz : other.size = m + s'.size := by
    have := congrArg List.length hbo
    rw [List.length_append, List.length_replicate, bytesOf_length, bytesOf_length] at this; exact this
  obtain ⟨e, hpar⟩ := ref_parse s' hall' (by omega) k' (by omega)
  have href2 : cowrieref20_argument.f k l0 l1 st other = cowrieref20_argument.j1 (k' + 1) s' l0 l1 st := href
  rw [href2, cowrieref20_argument.j1, hpar, Option.bind_some]
  obtain ⟨lo, hlo⟩ : ∃ lo : Nat, lo = other.size - 5 := ⟨_, rfl⟩
  have hmx : mx (wrap64 ((other.size : Int) - 5)) 0 = (lo : Int) := by
    have hw : wrap64 ((other.size : Int) - 5) = (other.size : Int) - 5 := by unfold wrap64; omega
    rw [hw]; unfold mx; split <;> omega
  have hts : (other.extract lo other.size).size = other.size - lo := by
    rw [← bytesOf_length, bytesOf_drop, List.length_drop, bytesOf_length]
  have htb : (bytesOf (other.extract lo other.size)).all XC.digC = true := by
    rw [bytesOf_drop, List.all_eq_true]
    rw [List.all_eq_true] at hall
    exact fun x hx => hall x (List.mem_of_mem_drop hx)
  have hps := ps_digits (other.extract lo other.size) (by omega) htb (by omega)
  have e48 : (⟨#[48]⟩ : ByteArray).data.toList = [48] := rfl
  have e48s : (⟨#[48]⟩ : ByteArray).size = 1 := rfl
  have htrim : strings_Trim.f other ⟨#[48]⟩ = some ⟨(Lib.trimS other.data.toList [48]).toArray⟩ := by
    unfold strings_Trim.f
    rw [e48, e48s, if_pos ⟨by omega, by omega, by decide⟩]
  have hleft : strings_TrimLeft.f other ⟨#[48]⟩ = some ⟨(other.data.toList.dropWhile z48).toArray⟩ := by
    unfold strings_TrimLeft.f
    rw [e48, e48s, if_pos ⟨by omega, by decide⟩]; rfl
  unfold vars_Store_argument.f
  rw [hmx, if_pos (by omega), if_pos (by omega), Int.toNat_natCast, hps, Option.bind_some, htrim, Option.bind_some, hleft]
  have ht1 : (⟨(Lib.trimS other.data.toList [48]).toArray⟩ : ByteArray).toList = Lib.trimS other.data.toList [48] := by rw [ByteArray.toList_eq]
  have hD : (⟨(other.data.toList.dropWhile z48).toArray⟩ : ByteArray).size = s'.size := by
    rw [← dlen, ← dlen, hs']
  rw [ht1]
  by_cases hn : s'.data.toList = []
  · have h0 : s'.size = 0 := by rw [← dlen, hn]; rfl
    have hT : Lib.trimS other.data.toList [48] = [] := (trimS_nil _).2 (by rw [← hs']; exact hn)
    have hx : s'.toList = [] := by rw [ByteArray.toList_eq]; exact hn
    rw [if_pos hT, if_pos hx]
    exact ⟨_, _, _, rfl, rfl, rfl⟩
  · have h0 : 0 < s'.size := by
      rw [← dlen]; exact List.length_pos_iff.2 hn
    have hT : ¬ Lib.trimS other.data.toList [48] = [] := fun h => hn (by rw [hs']; exact (trimS_nil _).1 h)
    have hx : ¬ s'.toList = [] := by rw [ByteArray.toList_eq]; exact hn
    rw [if_neg hT, if_neg hx, Option.bind_some, hD]
    by_cases h5 : (s'.size : Int) > 5
    · rw [if_pos h5, if_pos h5]
      exact ⟨_, _, _, rfl, rfl, rfl⟩
    · rw [if_neg h5, if_neg h5, if_pos h0]
      have hdv : dv (bytesOf (other.extract lo other.size)) 0 = dv (bytesOf s') 0 := by
        rw [bytesOf_drop, hbo, List.drop_append_of_le_length (by rw [List.length_replicate]; omega), List.drop_replicate, dv_zeros]
      rw [hdv]
      have hrange : 1 ≤ dv (bytesOf s') 0 ∧ dv (bytesOf s') 0 < 1000000 := by
        cases hq : s'.data.toList with
        | nil => exact absurd hq hn
        | cons x r =>
          have hx48 := dw_head other.data.toList x r (by rw [← hs', hq])
          have hb : bytesOf s' = (x.toNat : Int) :: r.map (fun b => (b.toNat : Int)) := by unfold bytesOf; rw [hq]; rfl
          rw [hb, List.all_cons, Bool.and_eq_true] at hall'
          have hr := dig_rng hall'.1
          have hx' : x.toNat ≠ 48 := fun h => hx48 (UInt8.toNat_inj.1 h)
          have hl4 : (r.map (fun b => (b.toNat : Int))).length ≤ 4 := by
            have := congrArg List.length hb
            rw [bytesOf_length, List.length_cons] at this; omega
          have hds : dstep 0 (x.toNat : Int) = (x.toNat : Int) - 48 := by
            unfold dstep; rw [u64w (n := 0 * 10) (by omega) (by omega), u64w (by omega) (by omega)]; omega
          have h10 := ten_le _ hl4
          have hp : (0 : Int) < 10 ^ (r.map (fun b => (b.toNat : Int))).length := Int.pow_pos (by omega)
          have := dv_ge (r.map (fun b => (b.toNat : Int))) hall'.2 ((x.toNat : Int) - 48) (by omega) (by
            have h1 : ((x.toNat : Int) - 48 + 1) * 10 ^ (r.map (fun b => (b.toNat : Int))).length ≤ 10 * 10 ^ (r.map (fun b => (b.toNat : Int))).length := Int.mul_le_mul_of_nonneg_right (by omega) (by omega)
            omega)
          rw [hb]
          show 1 ≤ dv _ (dstep 0 (x.toNat : Int)) ∧ dv _ (dstep 0 (x.toNat : Int)) < 1000000
          rw [hds]; omega
      have hw : wrap64 (dv (bytesOf s') 0) = dv (bytesOf s') 0 := by unfold wrap64; omega
      have hw1 : wrap64 (dv (bytesOf s') 0 - 1) = dv (bytesOf s') 0 - 1 := by unfold wrap64; omega
      simp only [hw]
      by_cases hg : dv (bytesOf s') 0 > (l1.length : Int)
      · rw [if_pos hg]
        exact ⟨_, _, _, rfl, rfl, rfl⟩
      · rw [if_neg hg, hw1, if_pos (by omega), if_pos (by omega)]
        exact ⟨_, _, _, rfl, rfl, rfl⟩
theorem find20_l (l0 : List S53) (l1 : List ByteArray) (st : Int) (name : ByteArray) (hl : l0.length ≤ 1048576) : ∀ n i k, i + n = l0.length → n < k → (∀ j (hj : j < l0.length), j < i → isN name l0[j] = false) → cowrieref20_find.l0 k name (i : Int) l0 l1 st = some (XC.idxI (isN name) l0) := by
  intro n
  induction n with
  | zero =>
    intro i k hi hk h
    obtain ⟨k, rfl⟩ : ∃ k', k = k' + 1 := ⟨k - 1, by omega⟩
    rw [cowrieref20_find.l0, if_neg (by omega), idx_none (fun x hx => ?_)]
    obtain ⟨j, hj, rfl⟩ := List.mem_iff_getElem.1 hx
    exact h j hj (by omega)
  | succ n ih =>
    intro i k hi hk h
    obtain ⟨k, rfl⟩ : ∃ k', k = k' + 1 := ⟨k - 1, by omega⟩
    have hil : i < l0.length := by omega
    rw [cowrieref20_find.l0, if_pos (by omega), if_pos (by omega), rd_at l0 i hil]
    by_cases hq : l0[i].f0.toList = name.toList
    · rw [if_pos hq, idx_has (i := i) (v := l0[i]) ⟨hil, rfl, isN_eq.2 hq, fun j hj => h j (by omega) hj⟩]
    · rw [if_neg hq, wrap_small (by omega)]
      refine ih (i + 1) k (by omega) (by omega) (fun j hj hji => ?_)
      by_cases e : j = i
      · subst e; exact isN_ne.2 hq
      · exact h j hj (by omega)
theorem find20 (l0 : List S53) (l1 : List ByteArray) (st : Int) (name : ByteArray) (hl : l0.length ≤ 1048576) (k : Nat) (hk : 1048577 ≤ k) : cowrieref20_find.f k l0 l1 st name = some (XC.idxI (isN name) l0) :=
  find20_l l0 l1 st name hl l0.length 0 k (by omega) (by omega) (fun j _ h => absurd h (by omega))
theorem digits_l (s : ByteArray) (hs : s.size ≤ 1048576) : ∀ n i k, i + n = s.size → n < k → cowrieref01_Digits.l0 k s (i : Int) = some (decide (0 < s.size) && ((bytesOf s).drop i).all XC.digC) := by
  intro n
  induction n with
  | zero =>
    intro i k hi hk
    obtain ⟨k, rfl⟩ : ∃ k', k = k' + 1 := ⟨k - 1, by omega⟩
    rw [cowrieref01_Digits.l0, if_neg (by omega), List.drop_of_length_le (by rw [bytesOf_length]; omega)]
    simp
  | succ n ih =>
    intro i k hi hk
    obtain ⟨k, rfl⟩ : ∃ k', k = k' + 1 := ⟨k - 1, by omega⟩
    rw [cowrieref01_Digits.l0, if_pos (by omega), if_pos (by omega), digit_eq, Option.bind_some, wrap_small (by omega), XC.bytes_drop s i (by omega), List.all_cons, ih (i + 1) k (by omega) (by omega)]
    cases XC.digC (bt s i) <;> simp
theorem digits01 (s : ByteArray) (hs : s.size ≤ 1048576) (k : Nat) (hk : 1048577 ≤ k) : cowrieref01_Digits.f k s = some (XC.digitsB (bytesOf s)) := by
  rw [XC.digitsB_eq]
  have := digits_l s hs s.size 0 k (by omega) (by omega)
  rw [List.drop_zero] at this
  exact this

/-! ### back_p8.tpl -/
theorem text_same {X l0 : List S53} {l1 : List ByteArray} {st : Int} {other : ByteArray} (hf : SameF other X l0) (hX : X.length ≤ 1048576) (hl0 : l0.length ≤ 1048576) (hgl : GoodL l0) (hb : Bg l0) (hl : l1.length ≤ 1024) (hs : ∀ s ∈ l1, s.size ≤ 1048576) (hst : 0 ≤ st ∧ st ≤ 255) (hz : other.size ≤ 1048576) (k : Nat) (hk : 4200000 ≤ k) :
    ∃ a b f, vars_Text.f k X l1 st other = some (a, f) ∧ cowrieref20_Text.f k l0 l1 st other = some (b, f) ∧ a.toList = b.toList := by
  obtain ⟨k, rfl⟩ : ∃ q, k = q + 1 + 1 + 1 := ⟨k - 3, by omega⟩
  have hfind := find20 l0 l1 st other hl0 (k + 1 + 1 + 1) (by omega)
  unfold vars_Text.f cowrieref20_Text.f
  rw [hfind, Option.bind_some]
  by_cases c1 : other.toList = ([35] : List UInt8)
  · obtain ⟨a, b, ha, hb, hab⟩ := print_same l1.length (by omega) (k + 1 + 1 + 1) (by omega)
    rw [if_pos c1, if_pos c1, ha, hb]
    exact ⟨_, _, _, rfl, rfl, hab⟩
  rw [if_neg c1, if_neg c1]
  by_cases c2 : other.toList = ([63] : List UInt8)
  · obtain ⟨a, b, ha, hb, hab⟩ := print_same st.toNat (by omega) (k + 1 + 1 + 1) (by omega)
    have e : ((st.toNat : Nat) : Int) = st := by omega
    rw [e] at ha hb
    rw [if_pos c2, if_pos c2, ha, hb]
    exact ⟨_, _, _, rfl, rfl, hab⟩
  rw [if_neg c2, if_neg c2]
  obtain ⟨ja, jb, hja, hjb, hjab⟩ := join_same l1 hl hs (k + 1 + 1) (by omega)
  by_cases c3 : other.toList = ([64] : List UInt8)
  · rw [if_pos c3, if_pos c3, hja, cowrieref20_Text.j0, if_pos rfl, hjb]
    exact ⟨_, _, _, rfl, rfl, hjab⟩
  rw [if_neg c3, if_neg c3]
  by_cases c4 : other.toList = ([42] : List UInt8)
  · have e : (other.toList == ([42] : List UInt8)) = true := by simpa using c4
    rw [if_pos c4, e, hja, cowrieref20_Text.j0, if_pos rfl, hjb]
    exact ⟨_, _, _, rfl, rfl, hjab⟩
  have e : (other.toList == ([42] : List UInt8)) = false := by simpa using c4
  rw [if_neg c4, e, cowrieref20_Text.j0, if_neg (by simp), oDigits _ hz, digits01 _ hz _ (by omega), Option.bind_some, Option.bind_some]
  cases hd : XC.digitsB (bytesOf other)
  · rw [if_neg (by simp), if_neg (by simp), find_eq, Option.bind_some]
    rcases hf with ⟨hi1, hi2⟩ | ⟨i, v, hX1, hL1⟩
    · rw [hi1, hi2, if_pos (by omega), if_pos (by omega), vars_Text.j0, if_pos rfl, cowrieref20_Text.j1, if_pos rfl]
      exact ⟨_, _, _, rfl, rfl, rfl⟩
    · have hil := hL1.1
      have hiX := hX1.1
      have hv := hgl.1 _ (List.getElem_mem hil)
      have hbv := hb _ (List.getElem_mem hil)
      rw [hL1.2.1] at hv hbv
      have hname : XC.nameB (bytesOf other) = true := by
        have h1 : XC.nameB (bytesOf v.f0) = true := by
          unfold vok at hv
          simp only [Bool.and_eq_true] at hv
          exact hv.1.1.1.1
        have h2 := isN_eq.1 hL1.2.2.1
        have h3 : bytesOf v.f0 = bytesOf other := by
          unfold bytesOf; rw [← ByteArray.toList_eq, ← ByteArray.toList_eq, h2]
        rw [← h3]; exact h1
      have hshape : v.f2 = true → v.f1.toList = [] := by
        intro h
        unfold vok at hv
        simp only [Bool.and_eq_true] at hv
        have := hv.2
        rw [if_pos h] at this
        simpa using this
      have hlen : v.f3.length ≤ 1024 := by
        unfold vok at hv
        simp only [Bool.and_eq_true, decide_eq_true_eq] at hv
        have := hv.1.2; omega
      have hR : ∀ k, cowrieref20_Text.j1 (k + 1) (i : Int) (!true) l0 l1 st = if v.f2 = true then cowrieref20_Text.j2 k (i : Int) (decide ((v.f3.length : Int) > 0)) l0 l1 st else cowrieref20_Text.j2 k (i : Int) false l0 l1 st := fun k => by
        rw [cowrieref20_Text.j1, if_neg (by simp), if_pos (by omega), if_pos (by omega), rd_at l0 i hil, hL1.2.1]
      rw [idx_has hX1, idx_has hL1, if_neg (by omega), if_neg (by omega), oName _ hz, name_eq _ hz _ (by omega), hname, Option.bind_some, Option.bind_some, hR, vars_Text.j0, if_neg (by simp), if_pos (by omega), if_pos (by omega), rd_at X i hiX, hX1.2.1]
      have hJf : ∀ k, cowrieref20_Text.j2 (k + 1) (i : Int) false l0 l1 st = if v.f2 = true then some ((⟨#[]⟩ : ByteArray), true) else some (v.f1, true) := fun k => by
        rw [cowrieref20_Text.j2, if_neg (by simp), if_pos (by omega), if_pos (by omega), rd_at l0 i hil, hL1.2.1]
      have hJt : 0 < v.f3.length → ∀ k, cowrieref20_Text.j2 (k + 1) (i : Int) true l0 l1 st = some (rdOf ByteArray.empty v.f3 0, true) := fun hp k => by
        rw [cowrieref20_Text.j2, if_pos rfl, if_pos (by omega), if_pos (by omega), rd_at l0 i hil, hL1.2.1, if_pos (by omega)]
      cases h2 : v.f2
      · rw [if_neg (by simp), if_neg (by simp), hJf, h2, if_neg (by simp)]
        exact ⟨_, _, _, rfl, rfl, rfl⟩
      · rw [if_pos rfl, if_pos rfl]
        cases h3 : v.f3 with
        | nil =>
          have e0 : mn (((([] : List ByteArray).length : Nat) : Int)) 1 = 0 := by unfold mn; simp
          have ed : decide ((((([] : List ByteArray).length : Nat) : Int)) > 0) = false := by simp
          rw [e0, ed, hJf, h2, if_pos rfl, if_pos (by omega), if_pos (by simp)]
          exact ⟨_, _, _, rfl, rfl, rfl⟩
        | cons x r =>
          have e0 : mn ((((x :: r).length : Nat) : Int)) 1 = 1 := by unfold mn; simp; omega
          have ed : decide (((((x :: r).length : Nat) : Int)) > 0) = true := by simp
          have hx : x.size ≤ 1048576 := hbv.2.2 x (by rw [h3]; simp)
          have ej : strings_Join.f [x] ⟨#[]⟩ = some x := by
            unfold strings_Join.f
            rw [List.map_cons, List.map_nil, Lib.join_one, if_pos (by rw [dlen]; omega), if_pos (by simp), back_data]
          rw [e0, ed, hJt (by rw [h3]; simp), h3, if_pos (by omega), if_pos (by simp only [List.length_cons]; omega)]
          show ∃ a b f, (strings_Join.f [x] ⟨#[]⟩).bind _ = _ ∧ _
          rw [ej]
          exact ⟨_, _, _, rfl, rfl, rfl⟩
  · rw [if_pos rfl, if_pos rfl]
    obtain ⟨a, b, f, ha, hb, hab⟩ := arg_same X l0 l1 st other hd hz hl (k + 1 + 1) (by omega)
    rw [ha, hb]
    exact ⟨_, _, _, rfl, rfl, hab⟩
theorem unset_mem {l : List S53} {nm : ByteArray} {x : S53} (h : x ∈ unset l nm) : x ∈ l := (List.mem_filter.1 h).1
theorem unset_no (l : List S53) (nm : ByteArray) : ∀ x ∈ unset l nm, isN nm x = false := by
  intro x hx
  have := (List.mem_filter.1 hx).2
  unfold isN
  simpa using this
theorem unset_good {l : List S53} (nm : ByteArray) (h : GoodL l) : GoodL (unset l nm) :=
  ⟨fun x hx => h.1 x (unset_mem hx), h.2.filter _⟩
theorem rest_len {l X : List S53} {l1 : List ByteArray} {st : Int} (h : restOk l l1 st = true) (hX : X.length ≤ 1024) : restOk X l1 st = true := by
  unfold restOk at h ⊢
  simp only [Bool.and_eq_true, decide_eq_true_eq] at h ⊢
  exact ⟨⟨⟨⟨by omega, h.1.1.1.2⟩, h.1.1.2⟩, h.1.2⟩, h.2⟩
theorem back_true (l0 : List S53) (l1 : List ByteArray) (st : Int) (name t other : ByteArray) (hs : Sm l0) (hb : Bg l0) (h1 : l1.length ≤ 1048576) (g1 : ∀ s ∈ l1, s.size ≤ 1048576) (hz : name.size ≤ 1048576) (ht : t.size ≤ 1048576) (ho : other.size ≤ 1048576) :
    cowrielaw20_VarsBack.f 5000001 l0 l1 st name t other = some true := by
  have ha := alive_some
  have num0 : ∀ x, cowrielaw20_num.f x = some x := fun _ => rfl
  unfold cowrielaw20_VarsBack.f
  rw [ha, Option.bind_some, if_pos rfl, Of_some l0 l1 st hs h1 _ (by omega), Option.bind_some]
  rcases put_form l0 l1 st name t hs h1 hz 5000001 (by omega) with ⟨e, he, hp⟩ | ⟨X, hp, hn, htx, hX⟩
  · rw [hp, Option.bind_some, num0, Option.bind_some, if_neg he, cowrielaw20_VarsBack.j0, if_pos rfl, num0, Option.bind_some, if_neg he]; rfl
  · obtain ⟨c, hc⟩ := check_some l0 l1 st hs hb h1 g1 5000001 (by omega)
    rw [hp, Option.bind_some, num0, Option.bind_some, if_pos rfl, hc, Option.bind_some]
    by_cases hc0 : c = 0
    · subst hc0
      obtain ⟨hgl, hr⟩ := check_ok hs hb h1 g1 hc
      have hr' := hr
      unfold restOk at hr'
      simp only [Bool.and_eq_true, decide_eq_true_eq] at hr'
      obtain ⟨⟨⟨⟨r1, r2⟩, r3⟩, r4⟩, r5⟩ := hr'
      have hl0 : l0.length ≤ 1024 := by omega
      have hXl := putX_len hX hl0
      have hXg := putX_good hX hgl hn htx
      have hXb := putX_bg hX hb hz ht
      have hXs := putX_sm hX hs hl0
      obtain ⟨i, hh⟩ := putX_has hX
      have hT1 : vars_Text.f 5000000 X l1 st name = some (t, true) := text_hit hh hn hz 5000000 (by omega)
      have hU : vars_Unset.f X l1 st name = some (unset X name, l1, st) := by
        unfold vars_Unset.f
        rw [own_some _ hXs, Option.bind_some, clone_some _ h1, Option.bind_some]
      have hUl : (unset X name).length ≤ 1024 := Nat.le_trans (List.length_filter_le _ _) hXl
      have hT2 : vars_Text.f 5000000 (unset X name) l1 st name = some (⟨#[]⟩, false) := text_miss (unset_no X name) hn hz 5000000 (by omega)
      have hC1 : vars_Check.f X l1 st = some 0 := check_zero hXg (rest_len hr hXl) hXb
      have hC2 : vars_Check.f (unset X name) l1 st = some 0 := check_zero (unset_good name hXg) (rest_len hr hUl) (fun x hx => hXb x (unset_mem hx))
      rw [cowrielaw20_VarsBack.j0, if_neg (by simp), hT1, Option.bind_some, hU, Option.bind_some]
      simp only [hT2, Option.bind_some]
      by_cases hon : other.toList = name.toList
      · have hon' : other = name := by
          rw [ByteArray.toList_eq, ByteArray.toList_eq] at hon
          rw [← back_data other, ← back_data name, hon]
        have hT3 : ∃ b f, cowrieref20_Text.f 5000000 l0 l1 st other = some (b, f) := by
          obtain ⟨a, b, f, -, hb2, -⟩ := text_same (X := l0) (l0 := l0) (l1 := l1) (st := st) (other := other) (by
            rcases idx_cases other l0 with ⟨h, _⟩ | ⟨i, v, _, h⟩
            · exact .inl ⟨h, h⟩
            · exact .inr ⟨i, v, h, h⟩) (by omega) (by omega) hgl hb (by omega) g1 ⟨r4, r5⟩ ho 5000000 (by omega)
          exact ⟨b, f, hb2⟩
        obtain ⟨b, f, hT3⟩ := hT3
        rw [hon'] at hT3 ⊢
        rw [hT1, Option.bind_some, hT3, Option.bind_some, if_pos trivial, if_pos trivial, if_neg (by simp), if_pos rfl, hC1, Option.bind_some, num0, Option.bind_some, if_pos rfl, hC2, Option.bind_some, num0, Option.bind_some]; rfl
      · obtain ⟨a, b, f, ha2, hb2, hab⟩ := text_same (putX_same hX hon) (by omega) (by omega) hgl hb (by omega) g1 ⟨r4, r5⟩ ho 5000000 (by omega)
        rw [ha2, Option.bind_some, hb2, Option.bind_some, if_pos trivial, if_pos trivial, if_neg (by simp), if_neg hon, if_pos hab, if_pos (by simp), hC1, Option.bind_some, num0, Option.bind_some, if_pos rfl, hC2, Option.bind_some, num0, Option.bind_some]; rfl
    · rw [cowrielaw20_VarsBack.j0, if_pos (by simpa using hc0), num0, Option.bind_some, if_pos rfl]

/-! ### back_end.tpl -/
open Go.ChangeShapes Go.WideShapes Go.ChangeAt Go.Joins Go.Deep
open Go.ChangeMaps (open_string)
set_option maxRecDepth 100000
def vwt (x : S53) : Nat := x.f0.size + x.f1.size + XO.wsum (fun s : ByteArray => s.size + 1) x.f3 + 1
theorem op_varB (W : World) : XO.Op k53 Tryd.prog W 53 vwt := by
  intro H enc sp held fuel cs x h
  obtain ⟨y0, y1, y2, y3, n, rfl, hl, h0, h1, h2, h3⟩ := Go.Joins.trod_struct4 Tryd.underlying53 h
  have hc : Tryd.prog.cellsOf 53 = 4 := by kernel_rfl
  have k9 : Tryd.prog.cellsOf 9 = 1 := by kernel_rfl
  have k4 : Tryd.prog.cellsOf 4 = 1 := by kernel_rfl
  have k23 : Tryd.prog.cellsOf 23 = 1 := by kernel_rfl
  rw [hc] at hl
  match cs, hl with
  | [c0, c1, c2, c3], _ =>
    simp [k9, k4, k23] at h0 h1 h2 h3
    obtain ⟨a0, e0, b0⟩ := XO.op_string Tryd.underlying9 enc sp held n _ _ h0
    obtain ⟨a1, e1, b1⟩ := XO.op_string Tryd.underlying9 enc sp held n _ _ h1
    obtain ⟨a2, e2, -⟩ := XO.op_bool Tryd.underlying4 enc sp held n _ _ h2
    obtain ⟨a3, A3, c3', e3, l3, g3, b3⟩ := XO.slice_C Tryd.underlying23 k9 (XO.op_string Tryd.underlying9) h3
    have e0' : [c0] = [Value.string a0] := e0
    have e1' : [c1] = [Value.string a1] := e1
    have e2' : [c2] = [Value.bool a2] := e2
    injection e0' with e0'; injection e1' with e1'; injection e2' with e2'; injection e3 with e3
    subst e0' e1' e2' e3
    refine ⟨⟨a0, a1, a2, a3⟩, k53_mk W ⟨a0, a1, a2, a3⟩ l3 g3, ?_⟩
    simp only [Rows.uptoBulk, Rows.uptoBulkAll, vwt]
    simp only at b0 b1
    omega
theorem size_in {l : List ByteArray} {N : Nat} (h : XO.wsum (fun s : ByteArray => s.size + 1) l ≤ N) : l.length ≤ N ∧ ∀ s ∈ l, s.size ≤ N := by
  have q1 := XO.wsum_len (fun s : ByteArray => s.size + 1) (fun _ => by omega) l
  refine ⟨by omega, fun s hs => ?_⟩
  have := XO.wsum_mem (fun s : ByteArray => s.size + 1) l s hs
  have h2 : s.size + 1 ≤ XO.wsum (fun s : ByteArray => s.size + 1) l := this
  omega
/-- a store's two rows, of what is read, with the sizes of all texts -/
theorem open_storeB {H : Type} {W : World} {base : Nat} {v : Value} {enc : TypeId × Value → H} {d : DataW H} {p : List MemPlace} {T : TypeId} {f0 f1 f2 : Field}
    (hs : Tryd.prog.underlying T = some (.struct #[f0, f1, f2])) (hone : oneCellFields Tryd.prog #[f0, f1, f2] = true) (hC : Tryd.prog.cellsOf T = 3) (t0 : f0.type = 22) (t1 : f1.type = 23) (t2 : f2.type = 3)
    (hv : Value.okWide Tryd.prog W .any base T v) (h : DataW.Trod enc Tryd.prog W 0 (fun _ => true) true T v d p) :
    ∃ (A0 : Option Addr) (c0 : Nat) (l0 : List S53) (A1 : Option Addr) (c1 : Nat) (l1 : List ByteArray) (st : Int), v = .agg #[.slice A0 l0.length c0, .slice A1 l1.length c1, .int .i64 st] ∧ l0.length ≤ c0 ∧ Kd.C k53 W A0 l0.length l0 ∧ l1.length ≤ c1 ∧ Kd.C Kd.string W A1 l1.length l1 ∧
      (Lit.int .i64 st).wf = true ∧ (Rows.uptoBulk d ≤ 1048576 → Sm l0 ∧ Bg l0 ∧ l1.length ≤ 1048576 ∧ ∀ s ∈ l1, s.size ≤ 1048576) := by
  obtain ⟨v0, v1, v2, y0, y1, y2, n, rfl, rfl, rfl, g0, g1, g2⟩ := Go.Joins.open_agg3 hs hone hC hv h
  rw [t0] at g0; rw [t1] at g1; rw [t2] at g2
  have k53 : Tryd.prog.cellsOf 53 = 4 := by kernel_rfl
  have k9 : Tryd.prog.cellsOf 9 = 1 := by kernel_rfl
  obtain ⟨l0, A0, c0, e0, b0, C0, w0⟩ := XO.slice_C Tryd.underlying22 k53 (op_varB W) g0
  obtain ⟨l1, A1, c1, e1, b1, C1, w1⟩ := XO.slice_C Tryd.underlying23 k9 (XO.op_string Tryd.underlying9) g1
  obtain ⟨st, e2, -, hw⟩ := DataW.trod_int Tryd.underlying3 g2
  injection e0 with e0; injection e1 with e1; injection e2 with e2
  subst e0 e1 e2
  refine ⟨A0, c0, l0, A1, c1, l1, st, rfl, b0, C0, b1, C1, hw, fun hb => ?_⟩
  simp only [Rows.uptoBulk, Rows.uptoBulkAll] at hb
  have q0 := XO.wsum_len vwt (fun _ => by unfold vwt; omega) l0
  have q1 := size_in (l := l1) (N := 1048576) (by omega)
  have q2 : ∀ x ∈ l0, vwt x ≤ 1048576 := fun x hx => by have := XO.wsum_mem vwt l0 x hx; omega
  have q3 : ∀ x ∈ l0, x.f3.length ≤ 1048576 ∧ ∀ s ∈ x.f3, s.size ≤ 1048576 := fun x hx => by
    have := q2 x hx
    unfold vwt at this
    exact size_in (by omega)
  exact ⟨⟨by omega, fun x hx => (q3 x hx).1⟩, fun x hx => ⟨by have := q2 x hx; unfold vwt at this; omega, by have := q2 x hx; unfold vwt at this; omega, (q3 x hx).2⟩, q1.1, q1.2⟩
theorem bulk_string {H : Type} (s : ByteArray) : Rows.uptoBulk (DataW.lit (H := H) (.string s.data.toList)) = s.size + 1 := by
  simp only [Rows.uptoBulk]
  have e : s.data.toList.length = s.size := by rw [Array.length_toList]; rfl
  omega
theorem VarsBack {H : Type} (W : World) (base : Nat) (v0 v1 v2 v3 : Value) (enc : TypeId × Value → H) {d0 d1 d2 d3 : DataW H} {p0 p1 p2 p3 : List MemPlace}
    (hv0 : Value.okWide Tryd.prog W .any base 25 v0) (h0 : DataW.Trod enc Tryd.prog W 0 (fun _ => true) true 25 v0 d0 p0)
    (hv1 : Value.okWide Tryd.prog W .any base 9 v1) (h1 : DataW.Trod enc Tryd.prog W 0 (fun _ => true) true 9 v1 d1 p1)
    (hv2 : Value.okWide Tryd.prog W .any base 9 v2) (h2 : DataW.Trod enc Tryd.prog W 0 (fun _ => true) true 9 v2 d2 p2)
    (hv3 : Value.okWide Tryd.prog W .any base 9 v3) (h3 : DataW.Trod enc Tryd.prog W 0 (fun _ => true) true 9 v3 d3 p3)
    (hL : laidMetH Tryd.prog Rows.varsBackUptoRow.laid W) (hb : Rows.uptoBulkAll [d0, d1, d2, d3] ≤ 1048576) :
    Calls Tryd.prog 4 #[v0, v1, v2, v3] W fun e w' => e = .returned (.bool true) ∧ Below W.heap.size W w' := by
  obtain ⟨A0, c0, l0, A1, c1, l1, st, rfl, b0, C0, b1, C1, hw, hsm⟩ := open_storeB Tryd.underlying25 (by kernel_rfl) (by kernel_rfl) rfl rfl rfl hv0 h0
  obtain ⟨name, rfl, rfl, rfl, m1⟩ := open_string Tryd.underlying9 hv1 h1
  obtain ⟨t, rfl, rfl, rfl, m2⟩ := open_string Tryd.underlying9 hv2 h2
  obtain ⟨other, rfl, rfl, rfl, m3⟩ := open_string Tryd.underlying9 hv3 h3
  simp only [Rows.uptoBulkAll, bulk_string] at hb
  obtain ⟨s0, s1, s2, s3⟩ := hsm (by omega)
  exact (cowrielaw20_VarsBack.calls 5000001 _ _ l0 _ _ l1 st name t other true W C0 b0 C1 b1 (back_true l0 l1 st name t other s0 s1 s2 s3 (by omega) (by omega) (by omega))).mono fun e w' h => h

end Go.Proofs.YtpljochiegallaaDoor.XVB
