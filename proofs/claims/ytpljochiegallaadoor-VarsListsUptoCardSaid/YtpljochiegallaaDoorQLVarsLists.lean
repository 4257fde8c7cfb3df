import Derived.Test.YtpljochiegallaaDoorQXVarsx0
import Derived.Test.YtpljochiegallaaDoorQXO
import Derived.Test.YtpljochiegallaaDoorQLVarsShifts
import Derived.Test.YtpljochiegallaaDoorQXVarsx7
import Derived.Test.YtpljochiegallaaDoorQXVarsx8
import Derived.Test.YtpljochiegallaaDoorQXVarsx13
import Derived.Test.YtpljochiegallaaDoorQXVarsx14
namespace Go.Proofs.YtpljochiegallaaDoor.XVars
open Go.RowKit Go.Proofs.YtpljochiegallaaDoorW.PrintWords Go.Proofs.YtpljochiegallaaDoorW.PrintLast Go.Proofs.YtpljochiegallaaDoorW.PrintMore
attribute [local go_sem] max2_int min2_int max_two min_two max_three min_three max_four min_four   -- for this text's walks alone
set_option linter.unusedVariables false
set_option linter.unusedSimpArgs false

/-! ### lists_law.tpl -/
/-- a store whose texts are short, too -/
def Bg (l : List S53) : Prop := ∀ x ∈ l, x.f0.size ≤ 1048576 ∧ x.f1.size ≤ 1048576 ∧ ∀ s ∈ x.f3, s.size ≤ 1048576
theorem text_term (s : ByteArray) (hs : s.size ≤ 1048576) : ∀ n i k, i + n = s.size → n < k → ∃ r, cowrieref20_text.l0 k s (i : Int) = some r := by
  intro n
  induction n with
  | zero =>
    intro i k hi hk
    obtain ⟨k, rfl⟩ : ∃ k', k = k' + 1 := ⟨k - 1, by omega⟩
    rw [cowrieref20_text.l0, if_neg (by omega)]
    split <;> exact ⟨_, rfl⟩
  | succ n ih =>
    intro i k hi hk
    obtain ⟨k, rfl⟩ : ∃ k', k = k' + 1 := ⟨k - 1, by omega⟩
    rw [cowrieref20_text.l0, if_pos (by omega), if_pos (by omega)]
    split
    · exact ⟨_, rfl⟩
    · rw [wrap_small (by omega)]
      exact ih (i + 1) k (by omega) (by omega)
theorem text_some (s : ByteArray) (hs : s.size ≤ 1048576) (k : Nat) (hk : 1048577 ≤ k) : ∃ r, cowrieref20_text.f k s = some r := text_term s hs s.size 0 k (by omega) (by omega)
theorem rdOf_at (l : List ByteArray) (i : Nat) (h : i < l.length) : rdOf ByteArray.empty l (i : Int) = l[i] := by
  simp [rdOf, List.getD_eq_getElem?_getD, h]
theorem texts_term (l : List ByteArray) (hl : l.length ≤ 1048576) (hs : ∀ s ∈ l, s.size ≤ 1048576) : ∀ n i k, i + n = l.length → n + 1048577 < k → ∃ r, cowrieref20_texts.l0 k l (i : Int) = some r := by
  intro n
  induction n with
  | zero =>
    intro i k hi hk
    obtain ⟨k, rfl⟩ : ∃ k', k = k' + 1 := ⟨k - 1, by omega⟩
    rw [cowrieref20_texts.l0, if_neg (by omega)]
    exact ⟨_, rfl⟩
  | succ n ih =>
    intro i k hi hk
    obtain ⟨k, rfl⟩ : ∃ k', k = k' + 1 := ⟨k - 1, by omega⟩
    have hil : i < l.length := by omega
    rw [cowrieref20_texts.l0, if_pos (by omega), if_pos (by omega), rdOf_at l i hil]
    obtain ⟨r, hr⟩ := text_some l[i] (hs _ (List.getElem_mem hil)) k (by omega)
    rw [hr, Option.bind_some]
    split
    · rw [wrap_small (by omega)]
      exact ih (i + 1) k (by omega) (by omega)
    · exact ⟨_, rfl⟩
theorem texts_some (l : List ByteArray) (hl : l.length ≤ 1048576) (hs : ∀ s ∈ l, s.size ≤ 1048576) (k : Nat) (hk : 2097155 ≤ k) : ∃ r, cowrieref20_texts.f k l = some r :=
  texts_term l hl hs l.length 0 k (by omega) (by omega)
theorem letter_some (x : Int) : ∃ b, cowrieref01_letter.f x = some b := by
  unfold cowrieref01_letter.f
  repeat' split
  all_goals exact ⟨_, rfl⟩
theorem digit_some (x : Int) : ∃ b, cowrieref01_digit.f x = some b := by
  unfold cowrieref01_digit.f
  split <;> exact ⟨_, rfl⟩
theorem name_term (s : ByteArray) (hs : s.size ≤ 1048576) : ∀ n i k, i + n = s.size → n < k → ∃ r, cowrieref01_Name.l0 k s (i : Int) = some r := by
  intro n
  induction n with
  | zero =>
    intro i k hi hk
    obtain ⟨k, rfl⟩ : ∃ k', k = k' + 1 := ⟨k - 1, by omega⟩
    rw [cowrieref01_Name.l0, if_neg (by omega)]
    split <;> exact ⟨_, rfl⟩
  | succ n ih =>
    intro i k hi hk
    obtain ⟨k, rfl⟩ : ∃ k', k = k' + 1 := ⟨k - 1, by omega⟩
    obtain ⟨b, hb⟩ := letter_some (bt s (i : Int))
    obtain ⟨b', hb'⟩ := digit_some (bt s (i : Int))
    rw [cowrieref01_Name.l0, if_pos (by omega), if_pos (by omega), hb, Option.bind_some, wrap_small (by omega)]
    split
    · exact ih (i + 1) k (by omega) (by omega)
    · split
      · exact ⟨_, rfl⟩
      · rw [hb', Option.bind_some]
        split
        · exact ih (i + 1) k (by omega) (by omega)
        · exact ⟨_, rfl⟩
theorem name_some (s : ByteArray) (hs : s.size ≤ 1048576) (k : Nat) (hk : 1048577 ≤ k) : ∃ r, cowrieref01_Name.f k s = some r := name_term s hs s.size 0 k (by omega) (by omega)
theorem check_l1 (l0 : List S53) (l1 : List ByteArray) (st : Int) (i M : Nat) (hi : i < l0.length) (hl : l0.length ≤ 1024) (H : ∀ k, M ≤ k → ∃ r, cowrieref20_Check.l0 k ((i + 1 : Nat) : Int) l0 l1 st = some r) (a b : ByteArray) (c : Bool) (d : List ByteArray) :
    ∀ m j k, j + m = i → m + M < k → ∃ r, cowrieref20_Check.l1 k (i : Int) (j : Int) l0 l1 st a b c d = some r := by
  intro m
  induction m with
  | zero =>
    intro j k hj hk
    obtain ⟨k, rfl⟩ : ∃ k', k = k' + 1 := ⟨k - 1, by omega⟩
    rw [cowrieref20_Check.l1, if_neg (by omega), wrap_small (by omega)]
    exact H k (by omega)
  | succ m ih =>
    intro j k hj hk
    obtain ⟨k, rfl⟩ : ∃ k', k = k' + 1 := ⟨k - 1, by omega⟩
    rw [cowrieref20_Check.l1, if_pos (by omega), if_pos (by omega), if_pos (by omega)]
    split
    · exact ⟨_, rfl⟩
    · rw [wrap_small (by omega)]
      exact ih (j + 1) k (by omega) (by omega)
theorem check_l0 (l0 : List S53) (l1 : List ByteArray) (st : Int) (hl : l0.length ≤ 1024) (hsm : Sm l0) (hbg : Bg l0) :
    ∀ n i k, i + n = l0.length → n * (l0.length + 4) + 2097200 ≤ k → ∃ r, cowrieref20_Check.l0 k (i : Int) l0 l1 st = some r := by
  intro n
  induction n with
  | zero =>
    intro i k hi hk
    obtain ⟨k, rfl⟩ : ∃ k', k = k' + 1 := ⟨k - 1, by omega⟩
    rw [cowrieref20_Check.l0, if_neg (by omega)]
    exact ⟨_, rfl⟩
  | succ n ih =>
    intro i k hi hk
    obtain ⟨k, rfl⟩ : ∃ k', k = k' + 1 := ⟨k - 1, by omega⟩
    have hil : i < l0.length := by omega
    have em : (n + 1) * (l0.length + 4) = n * (l0.length + 4) + (l0.length + 4) := by rw [Nat.add_mul, Nat.one_mul]
    rw [em] at hk
    have hj2 : ∀ (b : Bool) a c d e, ∃ r, cowrieref20_Check.j2 k (i : Int) b l0 l1 st a c d e = some r := by
      intro b a c d e
      obtain ⟨k, rfl⟩ : ∃ k', k = k' + 1 := ⟨k - 1, by omega⟩
      rw [cowrieref20_Check.j2]
      split
      · exact ⟨_, rfl⟩
      · exact check_l1 l0 l1 st i (n * (l0.length + 4) + 2097200) hil hl (fun k' hk' => ih (i + 1) k' (by omega) hk') a c d e i 0 k (by omega) (by omega)
    have hb := hbg _ (List.getElem_mem hil)
    have hs := hsm.2 _ (List.getElem_mem hil)
    obtain ⟨r1, h1⟩ := name_some l0[i].f0 hb.1 k (by omega)
    obtain ⟨r2, h2⟩ := text_some l0[i].f1 hb.2.1 k (by omega)
    obtain ⟨r3, h3⟩ := texts_some l0[i].f3 hs hb.2.2 k (by omega)
    rw [cowrieref20_Check.l0, if_pos (by omega), if_pos (by omega), rd_at l0 i hil, h1, Option.bind_some]
    split
    · rw [h2, Option.bind_some]
      split
      · rw [h3, Option.bind_some]
        split
        · repeat' split
          all_goals exact hj2 _ _ _ _ _
        · exact hj2 _ _ _ _ _
      · exact hj2 _ _ _ _ _
    · exact hj2 _ _ _ _ _
theorem check_some (l0 : List S53) (l1 : List ByteArray) (st : Int) (hsm : Sm l0) (hbg : Bg l0) (h1 : l1.length ≤ 1048576) (g1 : ∀ s ∈ l1, s.size ≤ 1048576) (k : Nat) (hk : 4000000 ≤ k) : ∃ r, cowrieref20_Check.f k l0 l1 st = some r := by
  obtain ⟨r1, e1⟩ := texts_some l1 h1 g1 k (by omega)
  have hj : ∀ b : Bool, l0.length ≤ 1024 ∨ b = true → ∃ r, cowrieref20_Check.j0 k b l0 l1 st = some r := by
    intro b hb
    obtain ⟨k, rfl⟩ : ∃ k', k = k' + 1 := ⟨k - 1, by omega⟩
    rw [cowrieref20_Check.j0]
    split
    · exact ⟨_, rfl⟩
    · rename_i hnb
      have hl : l0.length ≤ 1024 := by rcases hb with h | h; exact h; exact absurd h hnb
      refine check_l0 l0 l1 st hl hsm hbg l0.length 0 k (by omega) ?_
      have : l0.length * (l0.length + 4) ≤ 1024 * 1028 := Nat.mul_le_mul hl (by omega)
      omega
  unfold cowrieref20_Check.f
  split
  · exact hj _ (.inr rfl)
  · have hl : l0.length ≤ 1024 := by omega
    rw [e1]
    simp only [Option.bind_some]
    repeat' split
    all_goals exact hj _ (.inl hl)

/-! ### lists_pure.tpl -/
def isN (name : ByteArray) (v : S53) : Bool := v.f0.toList == name.toList
/-- a variable stands at a place, the first of its name -/
def Has (name : ByteArray) (l : List S53) (i : Nat) (v : S53) : Prop := ∃ h : i < l.length, l[i] = v ∧ isN name v = true ∧ ∀ j (hj : j < i), isN name (l[j]'(by omega)) = false
theorem idx_cases (name : ByteArray) (l : List S53) : (XC.idxI (isN name) l = -1 ∧ ∀ x ∈ l, isN name x = false) ∨ ∃ i v, XC.idxI (isN name) l = ((i : Nat) : Int) ∧ Has name l i v := by
  unfold XC.idxI
  cases h : l.any (isN name)
  · left
    refine ⟨by simp, fun x hx => ?_⟩
    rw [List.any_eq_false] at h
    simpa using h x hx
  · right
    have hl : l.findIdx (isN name) < l.length := by
      rw [List.findIdx_lt_length]; rw [List.any_eq_true] at h; exact h
    refine ⟨l.findIdx (isN name), l[l.findIdx (isN name)], by simp, hl, rfl, List.findIdx_getElem (w := hl), fun j hj => ?_⟩
    have := List.not_of_lt_findIdx hj
    simpa using this
theorem idx_has {name : ByteArray} {l : List S53} {i : Nat} {v : S53} (h : Has name l i v) : XC.idxI (isN name) l = (i : Int) := by
  obtain ⟨hl, hv, hn, hj⟩ := h
  refine XC.idxI_hit (isN name) l z53 i hl ?_ (fun j hji => ?_)
  · rw [XC.getD_at l _ i hl, hv]; exact hn
  · rw [XC.getD_at l _ j (by omega)]; exact hj j hji
theorem has_set {name : ByteArray} {l : List S53} {i : Nat} {v v' : S53} (h : Has name l i v) (hn : isN name v' = true) : Has name (l.set i v') i v' := by
  obtain ⟨hl, hv, _, hj⟩ := h
  refine ⟨by simpa using hl, by simp, hn, fun j hji => ?_⟩
  rw [List.getElem_set_ne (by omega)]
  exact hj j hji
theorem has_end {name : ByteArray} {l : List S53} {v' : S53} (h : ∀ x ∈ l, isN name x = false) (hn : isN name v' = true) : Has name (l ++ [v']) l.length v' := by
  refine ⟨by simp, by simp, hn, fun j hj => ?_⟩
  rw [List.getElem_append_left hj]
  exact h _ (List.getElem_mem hj)
theorem find_eq (l0 : List S53) (l1 : List ByteArray) (st : Int) (name : ByteArray) : vars_Store_find.f l0 l1 st name = some (XC.idxI (isN name) l0) := rfl
theorem isN_mk (name t : ByteArray) (b : Bool) (l : List ByteArray) : isN name ⟨name, t, b, l⟩ = true := by simp [isN]
theorem with_hit {l0 : List S53} {l1 : List ByteArray} {name : ByteArray} {i : Nat} {v0 : S53} (h : Has name l0 i v0) (hs : Sm l0) (h1 : l1.length ≤ 1048576) (st : Int) (t : ByteArray) (b : Bool) (l : List ByteArray) :
    vars_Store_with.f l0 l1 st name t b l = some (l0.set i ⟨name, t, b, l⟩, l1, st, 0) := by
  have hi := h.1
  unfold vars_Store_with.f
  rw [own_some _ hs, Option.bind_some, clone_some _ h1, Option.bind_some, find_eq, Option.bind_some, idx_has h, if_pos (by omega), if_pos (by omega), if_pos (by omega), Int.toNat_natCast]
theorem with_miss {l0 : List S53} {l1 : List ByteArray} {name : ByteArray} (h : XC.idxI (isN name) l0 = -1) (hs : Sm l0) (h1 : l1.length ≤ 1048576) (st : Int) (t : ByteArray) (b : Bool) (l : List ByteArray) :
    vars_Store_with.f l0 l1 st name t b l = some (if 1024 ≤ l0.length then ([], [], 0, 17) else (l0 ++ [⟨name, t, b, l⟩], l1, st, 0)) := by
  have hl := hs.1
  unfold vars_Store_with.f
  rw [own_some _ hs, Option.bind_some, clone_some _ h1, Option.bind_some, find_eq, Option.bind_some, h, if_neg (by omega)]
  by_cases hc : 1024 ≤ l0.length
  · rw [if_pos (by omega), if_pos hc]
  · rw [if_neg (by omega), if_neg hc, if_pos (by omega)]
theorem sm_put {l0 : List S53} (hs : Sm l0) {X : List S53} {v : S53} (hx : ∀ x ∈ X, x = v ∨ x ∈ l0) (hl : X.length ≤ 1048576) (hv : v.f3.length ≤ 1048576) : Sm X :=
  ⟨hl, fun x h => by rcases hx x h with rfl | h; exact hv; exact hs.2 x h⟩
theorem oName (name : ByteArray) (h : name.size ≤ 1048576) : octets_Name.f name = some (XC.nameB (bytesOf name)) := by
  unfold octets_Name.f; rw [if_pos (by omega)]
theorem not_at {name : ByteArray} (h : XC.nameB (bytesOf name) = true) : name.toList ≠ ([64] : List UInt8) := by
  intro e
  have e2 : bytesOf name = [64] := by
    unfold bytesOf
    rw [← ByteArray.toList_eq, e]; rfl
  rw [e2] at h
  exact absurd h (by decide)
theorem ask_l (l : List ByteArray) (hl : l.length ≤ 1048576) : ∀ n i k, i + n = l.length → n < k → ∃ r, vars_ask.l0 k l (l.length : Int) (i : Int) = some r := by
  intro n
  induction n with
  | zero =>
    intro i k hi hk
    obtain ⟨k, rfl⟩ : ∃ k', k = k' + 1 := ⟨k - 1, by omega⟩
    rw [vars_ask.l0, if_neg (by omega)]
    exact ⟨_, rfl⟩
  | succ n ih =>
    intro i k hi hk
    obtain ⟨k, rfl⟩ : ∃ k', k = k' + 1 := ⟨k - 1, by omega⟩
    rw [vars_ask.l0, if_pos (by omega), if_pos (by omega), if_pos (by omega)]
    unfold strings_IndexByte.f
    rw [Option.bind_some]
    split
    · exact ⟨_, rfl⟩
    · split
      · exact ⟨_, rfl⟩
      · rw [wrap_small (by omega)]
        exact ih (i + 1) k (by omega) (by omega)
theorem ask_some (l : List ByteArray) (hl : l.length ≤ 1048576) (k : Nat) (hk : 1048577 ≤ k) : ∃ r, vars_ask.f k l = some r := ask_l l hl l.length 0 k (by omega) (by omega)
theorem list_hit {X : List S53} {l1 : List ByteArray} {st : Int} {name : ByteArray} {i : Nat} {t : ByteArray} {l : List ByteArray} (h : Has name X i ⟨name, t, true, l⟩) (hn : XC.nameB (bytesOf name) = true) (hz : name.size ≤ 1048576) (hl : l.length ≤ 1048576) (hX : X.length ≤ 1048576) (k : Nat) (hk : 1 ≤ k) :
    vars_List.f k X l1 st name = some (l, true) := by
  obtain ⟨k, rfl⟩ : ∃ k', k = k' + 1 := ⟨k - 1, by omega⟩
  have hi := h.1
  have hv := h.2.1
  unfold vars_List.f
  rw [if_neg (not_at hn), find_eq, Option.bind_some, idx_has h, if_neg (by omega), oName _ hz, hn, Option.bind_some, vars_List.j0, if_neg (by simp), if_pos (by omega), if_pos (by omega), rd_at X i hi, hv, if_pos rfl, clone_some _ hl, Option.bind_some]
theorem list_miss {name : ByteArray} (hn : XC.nameB (bytesOf name) = true) (k : Nat) (hk : 1 ≤ k) : vars_List.f k [] [] 0 name = some ([], false) := by
  obtain ⟨k, rfl⟩ : ∃ k', k = k' + 1 := ⟨k - 1, by omega⟩
  unfold vars_List.f
  rw [if_neg (not_at hn), find_eq, Option.bind_some]
  have : XC.idxI (isN name) [] = -1 := by simp [XC.idxI]
  rw [this, if_pos (by omega), vars_List.j0, if_pos rfl]
theorem put_shape (l0 : List S53) (l1 : List ByteArray) (st : Int) (name t : ByteArray) (b : Bool) (l m : List ByteArray) (hs : Sm l0) (h1 : l1.length ≤ 1048576) (hz : name.size ≤ 1048576) (hm : m.length ≤ 1048576) (hl : l.length ≤ 1048576) (k : Nat) (hk : 1048577 ≤ k) :
    (∃ e, e ≠ 0 ∧ vars_Store_put.f k l0 l1 st name t b l m = some ([], [], 0, e)) ∨
      ∃ X i, vars_Store_put.f k l0 l1 st name t b l m = some (X, l1, st, 0) ∧ XC.nameB (bytesOf name) = true ∧ Has name X i ⟨name, t, b, l⟩ ∧ Sm X := by
  unfold vars_Store_put.f
  rw [oName _ hz, Option.bind_some]
  by_cases hn : XC.nameB (bytesOf name) = true
  · obtain ⟨r, hr⟩ := ask_some m hm k hk
    rw [if_pos hn, hr, Option.bind_some]
    by_cases hr0 : r = 0
    · rw [if_pos hr0]
      rcases idx_cases name l0 with ⟨hi, hno⟩ | ⟨i, v, -, hh⟩
      · rw [with_miss hi hs h1]
        by_cases hc : 1024 ≤ l0.length
        · rw [if_pos hc]
          exact .inl ⟨17, by omega, rfl⟩
        · rw [if_neg hc]
          refine .inr ⟨_, l0.length, rfl, hn, has_end hno (isN_mk _ _ _ _), sm_put (v := ⟨name, t, b, l⟩) hs (fun x hx => ?_) (by simp; omega) hl⟩
          rcases List.mem_append.1 hx with hx | hx
          · exact .inr hx
          · exact .inl (by simpa using hx)
      · rw [with_hit hh hs h1]
        exact .inr ⟨_, i, rfl, hn, has_set hh (isN_mk _ _ _ _), sm_put (v := ⟨name, t, b, l⟩) hs (fun x hx => (List.mem_or_eq_of_mem_set hx).symm) (by simpa using hs.1) hl⟩
    · rw [if_neg hr0]
      exact .inl ⟨r, hr0, rfl⟩
  · rw [if_neg hn]
    exact .inl ⟨31, by omega, rfl⟩
theorem putList_shape (l0 : List S53) (l1 : List ByteArray) (st : Int) (name : ByteArray) (l : List ByteArray) (hs : Sm l0) (h1 : l1.length ≤ 1048576) (hz : name.size ≤ 1048576) (hl : l.length ≤ 1048576) (k : Nat) (hk : 1048578 ≤ k) :
    (∃ e, e ≠ 0 ∧ vars_PutList.f k l0 l1 st name l = some ([], [], 0, e)) ∨
      ∃ X i, vars_PutList.f k l0 l1 st name l = some (X, l1, st, 0) ∧ XC.nameB (bytesOf name) = true ∧ Has name X i ⟨name, ⟨#[]⟩, true, l⟩ ∧ Sm X := by
  obtain ⟨k, rfl⟩ : ∃ k', k = k' + 1 := ⟨k - 1, by omega⟩
  have hj : (∃ e, e ≠ 0 ∧ vars_PutList.j0 (k + 1) name l false l0 l1 st = some ([], [], 0, e)) ∨
      ∃ X i, vars_PutList.j0 (k + 1) name l false l0 l1 st = some (X, l1, st, 0) ∧ XC.nameB (bytesOf name) = true ∧ Has name X i ⟨name, ⟨#[]⟩, true, l⟩ ∧ Sm X := by
    rw [vars_PutList.j0, if_neg (by simp), clone_some _ hl, Option.bind_some]
    rcases put_shape l0 l1 st name ⟨#[]⟩ true l l hs h1 hz hl hl k (by omega) with ⟨e, he, h⟩ | ⟨X, i, h, h2⟩
    · rw [h, Option.bind_some]; exact .inl ⟨e, he, rfl⟩
    · rw [h, Option.bind_some]; exact .inr ⟨X, i, rfl, h2⟩
  unfold vars_PutList.f
  rw [oName _ hz, Option.bind_some]
  split
  · by_cases hc : (l.length : Int) > 1024
    · rw [decide_eq_true hc, vars_PutList.j0, if_pos rfl]
      exact .inl ⟨3, by omega, rfl⟩
    · rw [decide_eq_false hc]; exact hj
  · exact hj
theorem lists_true (l0 : List S53) (l1 : List ByteArray) (st : Int) (name : ByteArray) (l : List ByteArray) (a : Int) (t : ByteArray) (hs : Sm l0) (hb : Bg l0) (h1 : l1.length ≤ 1048576) (g1 : ∀ s ∈ l1, s.size ≤ 1048576) (hz : name.size ≤ 1048576) (hl : l.length ≤ 1048576) :
    cowrielaw20_VarsLists.f 4000001 l0 l1 st name l a t = some true := by
  have ha := mono_le cowrielaw20_alive.mono (k := 20) (k' := 4000001) (by omega) alive_some
  unfold cowrielaw20_VarsLists.f
  rw [ha, Option.bind_some, if_pos rfl, Of_some l0 l1 st hs h1 _ (by omega), Option.bind_some]
  have num0 : ∀ x, cowrielaw20_num.f x = some x := fun _ => rfl
  rcases putList_shape l0 l1 st name l hs h1 hz hl 4000001 (by omega) with ⟨e, he, hp⟩ | ⟨X, i, hp, hn, hh, hX⟩
  · rw [hp, Option.bind_some, num0, Option.bind_some, if_neg he, cowrielaw20_VarsLists.j0, if_pos rfl, num0, Option.bind_some, if_neg he]; rfl
  · obtain ⟨c, hc⟩ := check_some l0 l1 st hs hb h1 g1 4000001 (by omega)
    rw [hp, Option.bind_some, num0, Option.bind_some, if_pos rfl, hc, Option.bind_some, cowrielaw20_VarsLists.j0]
    by_cases hc0 : c = 0
    · subst hc0
      have lists : vars_List.f 4000000 X l1 st name = some (l, true) := list_hit hh hn hz hl hX.1 4000000 (by omega)
      have same : cowrieplain_SameTexts.f 4000000 l l = some true := sameTexts_some l hl _ (by omega)
      have bad : ∀ e : Int, e ≠ 0 → vars_PutElement.f 4000000 X l1 st name a t = some ([], [], 0, e) →
          ((vars_List.f 4000000 X l1 st name).bind fun bt446 => ((vars_PutElement.f 4000000 X l1 st name a t).bind fun bt450 => ((vars_List.f 4000000 bt450.1 bt450.2.1 bt450.2.2.1 name).bind fun bt459 => ((cowrielaw20_num.f bt450.2.2.2).bind fun t463 => (if t463 = 0 then (if bt446.2 = true then ((cowrieplain_SameTexts.f 4000000 l bt446.1).bind fun t464 => (if t464 = true then (if (bt459.1.length : Int) = (mx (l.length : Int) (wrap64 (a + 1))) then (if 0 ≤ a then (if a < (bt459.1.length : Int) then (some ((rdOf ByteArray.empty bt459.1 a).toList == t.toList)) else (none)) else (none)) else (some false)) else (some false))) else (some false)) else (if bt446.2 = true then ((cowrieplain_SameTexts.f 4000000 l bt446.1).bind fun t466 => (if t466 = true then (some ((bt459.1.length : Int) == 0)) else (some false))) else (some false))))))) = some true := by
        intro e he hpe
        rw [lists, Option.bind_some, hpe, Option.bind_some, list_miss hn _ (by omega), Option.bind_some, num0, Option.bind_some, if_neg he, if_pos rfl, same, Option.bind_some, if_pos rfl]; rfl
      rw [if_neg (by simp)]
      obtain ⟨r, hr⟩ := ask_some [t] (by simp) 4000000 (by omega)
      have hpe : vars_PutElement.f 4000000 X l1 st name a t = (if r = 0 then ((pieces_PutElement.f l a t).bind fun bt413 => (if bt413.2 = 0 then ((vars_Store_with.f X l1 st name (⟨#[]⟩ : ByteArray) true bt413.1).bind fun bt417 => (some (bt417.1, bt417.2.1, bt417.2.2.1, bt417.2.2.2))) else (some (([] : List (S53)), ([] : List ByteArray), 0, bt413.2)))) else (some (([] : List (S53)), ([] : List ByteArray), 0, r))) := by
        unfold vars_PutElement.f
        rw [oName _ hz, Option.bind_some, if_pos hn, hr, Option.bind_some]
        by_cases hr0 : r = 0
        · rw [if_pos hr0, if_pos hr0, lists, Option.bind_some]
        · rw [if_neg hr0, if_neg hr0]
      by_cases hr0 : r = 0
      · rw [if_pos hr0] at hpe
        unfold pieces_PutElement.f at hpe
        by_cases q1 : a < 0 ∨ a > l.length
        · rw [if_pos q1, Option.bind_some, if_neg (by simp)] at hpe
          exact bad 4 (by omega) hpe
        · rw [if_neg q1] at hpe
          by_cases q2 : a = l.length ∧ a ≥ 1024
          · rw [if_pos q2, Option.bind_some, if_neg (by simp)] at hpe
            exact bad 17 (by omega) hpe
          · rw [if_neg q2, if_pos (by omega), Option.bind_some, if_pos rfl] at hpe
            simp only [with_hit hh hX h1, Option.bind_some] at hpe
            obtain ⟨n, rfl⟩ : ∃ n : Nat, a = n := ⟨a.toNat, by omega⟩
            simp only [Int.toNat_natCast] at hpe
            have hll : (if (n : Int) < l.length then l.set n t else l ++ [t]).length ≤ 1048577 := by
              split
              · rw [List.length_set]; omega
              · simp; omega
            have lists2 := list_hit (l1 := l1) (st := st) (has_set (v' := ⟨name, ⟨#[]⟩, true, if (n : Int) < l.length then l.set n t else l ++ [t]⟩) hh (isN_mk _ _ _ _)) hn hz (by
              split
              · rw [List.length_set]; omega
              · rename_i h; have : n = l.length := by omega
                have : ¬ ((n : Int) ≥ 1024) := fun hg => q2 ⟨by omega, hg⟩
                simp; omega) (by rw [List.length_set]; exact hX.1) 4000000 (by omega)
            rw [lists, Option.bind_some, hpe, Option.bind_some]
            show ((vars_List.f 4000000 (X.set i ⟨name, ⟨#[]⟩, true, if (n : Int) < l.length then l.set n t else l ++ [t]⟩) l1 st name).bind _) = _
            rw [lists2, Option.bind_some, num0, Option.bind_some, if_pos rfl, if_pos rfl, same, Option.bind_some, if_pos rfl]
            have hw : wrap64 ((n : Int) + 1) = ((n + 1 : Nat) : Int) := wrap_small (by omega)
            rw [hw]
            by_cases q3 : (n : Int) < l.length
            · simp only [if_pos q3]
              have e1 : mx (l.length : Int) ((n + 1 : Nat) : Int) = l.length := by unfold mx; split <;> omega
              rw [e1, if_pos (by rw [List.length_set]), if_pos (by omega), if_pos (by rw [List.length_set]; omega), rdOf_at _ _ (by rw [List.length_set]; omega), List.getElem_set_self]
              simp
            · simp only [if_neg q3]
              have hnl : n = l.length := by omega
              subst hnl
              have e1 : mx (l.length : Int) ((l.length + 1 : Nat) : Int) = ((l.length + 1 : Nat) : Int) := by unfold mx; split <;> omega
              rw [e1, if_pos (by simp), if_pos (by omega), if_pos (by simp; omega), rdOf_at _ _ (by simp)]
              simp
      · rw [if_neg hr0] at hpe
        exact bad r hr0 hpe
    · rw [if_pos (by simpa using hc0), num0, Option.bind_some, if_pos rfl]

/-! ### lists_end.tpl -/
open Go.ChangeShapes Go.WideShapes Go.ChangeAt Go.Joins Go.Deep
open Go.ChangeMaps (open_string)
set_option maxRecDepth 100000
def vwt (x : S53) : Nat := x.f0.size + x.f1.size + XO.wsum (fun s : ByteArray => s.size + 1) x.f3 + 1
theorem op_varB (W : World) : XO.Op k53 Tryd.prog W 53 vwt := by
  intro H enc sp held fuel cs x h
  obtain ⟨y0, y1, y2, y3, n, rfl, hl, h0, h1, h2, h3⟩ := Go.Joins.trod_struct4 Tryd.underlying53 h
  have hc : Tryd.prog.cellsOf 53 = 4 := by kernel_rfl
  have k9 : Tryd.prog.cellsOf 9 = 1 := by kernel_rfl
  have k4 : Tryd.prog.cellsOf 4 = 1 := by kernel_rfl
  have k23 : Tryd.prog.cellsOf 23 = 1 := by kernel_rfl
  rw [hc] at hl
  match cs, hl with
  | [c0, c1, c2, c3], _ =>
    simp [k9, k4, k23] at h0 h1 h2 h3
    obtain ⟨a0, e0, b0⟩ := XO.op_string Tryd.underlying9 enc sp held n _ _ h0
    obtain ⟨a1, e1, b1⟩ := XO.op_string Tryd.underlying9 enc sp held n _ _ h1
    obtain ⟨a2, e2, -⟩ := XO.op_bool Tryd.underlying4 enc sp held n _ _ h2
    obtain ⟨a3, A3, c3', e3, l3, g3, b3⟩ := XO.slice_C Tryd.underlying23 k9 (XO.op_string Tryd.underlying9) h3
    have e0' : [c0] = [Value.string a0] := e0
    have e1' : [c1] = [Value.string a1] := e1
    have e2' : [c2] = [Value.bool a2] := e2
    injection e0' with e0'; injection e1' with e1'; injection e2' with e2'; injection e3 with e3
    subst e0' e1' e2' e3
    refine ⟨⟨a0, a1, a2, a3⟩, k53_mk W ⟨a0, a1, a2, a3⟩ l3 g3, ?_⟩
    simp only [Rows.uptoBulk, Rows.uptoBulkAll, vwt]
    simp only at b0 b1
    omega
theorem size_in {l : List ByteArray} {N : Nat} (h : XO.wsum (fun s : ByteArray => s.size + 1) l ≤ N) : l.length ≤ N ∧ ∀ s ∈ l, s.size ≤ N := by
  have q1 := XO.wsum_len (fun s : ByteArray => s.size + 1) (fun _ => by omega) l
  refine ⟨by omega, fun s hs => ?_⟩
  have := XO.wsum_mem (fun s : ByteArray => s.size + 1) l s hs
  have h2 : s.size + 1 ≤ XO.wsum (fun s : ByteArray => s.size + 1) l := this
  omega
/-- a store's two rows, of what is read, with the sizes of all texts -/
theorem open_storeB {H : Type} {W : World} {base : Nat} {v : Value} {enc : TypeId × Value → H} {d : DataW H} {p : List MemPlace} {T : TypeId} {f0 f1 f2 : Field}
    (hs : Tryd.prog.underlying T = some (.struct #[f0, f1, f2])) (hone : oneCellFields Tryd.prog #[f0, f1, f2] = true) (hC : Tryd.prog.cellsOf T = 3) (t0 : f0.type = 22) (t1 : f1.type = 23) (t2 : f2.type = 3)
    (hv : Value.okWide Tryd.prog W .any base T v) (h : DataW.Trod enc Tryd.prog W 0 (fun _ => true) true T v d p) :
    ∃ (A0 : Option Addr) (c0 : Nat) (l0 : List S53) (A1 : Option Addr) (c1 : Nat) (l1 : List ByteArray) (st : Int), v = .agg #[.slice A0 l0.length c0, .slice A1 l1.length c1, .int .i64 st] ∧ l0.length ≤ c0 ∧ Kd.C k53 W A0 l0.length l0 ∧ l1.length ≤ c1 ∧ Kd.C Kd.string W A1 l1.length l1 ∧
      (Lit.int .i64 st).wf = true ∧ (Rows.uptoBulk d ≤ 1048576 → Sm l0 ∧ Bg l0 ∧ l1.length ≤ 1048576 ∧ ∀ s ∈ l1, s.size ≤ 1048576) := by
  obtain ⟨v0, v1, v2, y0, y1, y2, n, rfl, rfl, rfl, g0, g1, g2⟩ := Go.Joins.open_agg3 hs hone hC hv h
  rw [t0] at g0; rw [t1] at g1; rw [t2] at g2
  have k53 : Tryd.prog.cellsOf 53 = 4 := by kernel_rfl
  have k9 : Tryd.prog.cellsOf 9 = 1 := by kernel_rfl
  obtain ⟨l0, A0, c0, e0, b0, C0, w0⟩ := XO.slice_C Tryd.underlying22 k53 (op_varB W) g0
  obtain ⟨l1, A1, c1, e1, b1, C1, w1⟩ := XO.slice_C Tryd.underlying23 k9 (XO.op_string Tryd.underlying9) g1
  obtain ⟨st, e2, -, hw⟩ := DataW.trod_int Tryd.underlying3 g2
  injection e0 with e0; injection e1 with e1; injection e2 with e2
  subst e0 e1 e2
  refine ⟨A0, c0, l0, A1, c1, l1, st, rfl, b0, C0, b1, C1, hw, fun hb => ?_⟩
  simp only [Rows.uptoBulk, Rows.uptoBulkAll] at hb
  have q0 := XO.wsum_len vwt (fun _ => by unfold vwt; omega) l0
  have q1 := size_in (l := l1) (N := 1048576) (by omega)
  have q2 : ∀ x ∈ l0, vwt x ≤ 1048576 := fun x hx => by have := XO.wsum_mem vwt l0 x hx; omega
  have q3 : ∀ x ∈ l0, x.f3.length ≤ 1048576 ∧ ∀ s ∈ x.f3, s.size ≤ 1048576 := fun x hx => by
    have := q2 x hx
    unfold vwt at this
    exact size_in (by omega)
  exact ⟨⟨by omega, fun x hx => (q3 x hx).1⟩, fun x hx => ⟨by have := q2 x hx; unfold vwt at this; omega, by have := q2 x hx; unfold vwt at this; omega, (q3 x hx).2⟩, q1.1, q1.2⟩
theorem bulk_string {H : Type} (s : ByteArray) : Rows.uptoBulk (DataW.lit (H := H) (.string s.data.toList)) = s.size + 1 := by
  simp only [Rows.uptoBulk]
  have e : s.data.toList.length = s.size := by rw [Array.length_toList]; rfl
  omega
theorem VarsLists {H : Type} (W : World) (base : Nat) (v0 v1 v2 v3 v4 : Value) (enc : TypeId × Value → H) {d0 d1 d2 d3 d4 : DataW H} {p0 p1 p2 p3 p4 : List MemPlace}
    (hv0 : Value.okWide Tryd.prog W .any base 25 v0) (h0 : DataW.Trod enc Tryd.prog W 0 (fun _ => true) true 25 v0 d0 p0)
    (hv1 : Value.okWide Tryd.prog W .any base 9 v1) (h1 : DataW.Trod enc Tryd.prog W 0 (fun _ => true) true 9 v1 d1 p1)
    (hv2 : Value.okWide Tryd.prog W .any base 23 v2) (h2 : DataW.Trod enc Tryd.prog W 0 (fun _ => true) true 23 v2 d2 p2)
    (hv3 : Value.okWide Tryd.prog W .any base 3 v3) (h3 : DataW.Trod enc Tryd.prog W 0 (fun _ => true) true 3 v3 d3 p3)
    (hv4 : Value.okWide Tryd.prog W .any base 9 v4) (h4 : DataW.Trod enc Tryd.prog W 0 (fun _ => true) true 9 v4 d4 p4)
    (hL : laidMetH Tryd.prog Rows.varsListsUptoRow.laid W) (hb : Rows.uptoBulkAll [d0, d1, d2, d3, d4] ≤ 1048576) :
    Calls Tryd.prog 5 #[v0, v1, v2, v3, v4] W fun e w' => e = .returned (.bool true) ∧ Below W.heap.size W w' := by
  have k9 : Tryd.prog.cellsOf 9 = 1 := by kernel_rfl
  obtain ⟨A0, c0, l0, A1, c1, l1, st, rfl, b0, C0, b1, C1, hw, hsm⟩ := open_storeB Tryd.underlying25 (by kernel_rfl) (by kernel_rfl) rfl rfl rfl hv0 h0
  obtain ⟨name, rfl, rfl, rfl, m1⟩ := open_string Tryd.underlying9 hv1 h1
  obtain ⟨a2, len2, cap2, rfl⟩ := okWide_slice Tryd.underlying23 hv2
  obtain ⟨n2, h2⟩ := h2
  obtain ⟨l, A2, c2, e2, b2, C2, w2⟩ := XO.slice_C Tryd.underlying23 k9 (XO.op_string Tryd.underlying9) h2
  obtain ⟨a, rfl, rfl, rfl, wa⟩ := open_int Tryd.underlying3 hv3 h3
  obtain ⟨t, rfl, rfl, rfl, m4⟩ := open_string Tryd.underlying9 hv4 h4
  simp only [Value.cells] at e2
  injection e2 with e2
  injection e2 with e2a e2b e2c
  subst e2a e2b e2c
  simp only [Rows.uptoBulkAll, bulk_string] at hb
  obtain ⟨s0, s1, s2, s3⟩ := hsm (by omega)
  have q2 := size_in (l := l) (N := 1048576) (by simp only at w2; omega)
  exact (cowrielaw20_VarsLists.calls 4000001 _ _ l0 _ _ l1 st name _ _ l a t true W C0 b0 C1 b1 C2 b2 (lists_true l0 l1 st name l a t s0 s1 s2 s3 (by omega) q2.1)).mono fun e w' h => h

end Go.Proofs.YtpljochiegallaaDoor.XVars
