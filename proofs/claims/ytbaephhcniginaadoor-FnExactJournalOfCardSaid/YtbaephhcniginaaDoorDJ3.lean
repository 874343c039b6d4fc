/- What the harness's functions over rows of strings tell, in plain Lean: toStringS, eqStringS, szStringS; conditions stand in each theorem. -/
import Derived.Test.YtbaephhcniginaaDoorDJ2
import Derived.Test.YtbaephhcniginaaDoorDR1
namespace Go.Proofs.YtbaephhcniginaaDoor.J
open Go.RowKit Go.Proofs.YtbaephhcniginaaDoorW.PrintWords Go.Proofs.YtbaephhcniginaaDoorW.PrintLast Go.Proofs.YtbaephhcniginaaDoorW.PrintMore
def spare : ByteArray := ⟨#[126, 115, 112, 97, 114, 101, 126]⟩
/-- the whole block that toStringS makes -/
def whole (l : List ByteArray) (b : Bool) : List ByteArray := if b = true ∧ l = [] then [] else l ++ List.replicate (room l.length) spare
theorem room_le (n : Nat) : room n ≤ n + 1 := by unfold room; split <;> (try split) <;> omega
/-- the second loop: what is behind is filled -/
theorem toW_l1 (l : List ByteArray) : ∀ (m : Nat) (done rest : List ByteArray), rest.length = m → l.length ≤ done.length + m → done.length + m ≤ 3000000 → Ev (fun k => laws_toStringW.l1 k l (done ++ rest) (done.length : Int)) (done ++ List.replicate m spare)
  | 0, done, rest, h, h2, h3 => by
    have : rest = [] := List.length_eq_zero_iff.1 h
    subst this
    refine Ev.step (fun k => by rw [laws_toStringW.l1]) ?_
    refine Ev.ite_neg (by simp) ?_
    refine Ev.ite_pos (by omega) ?_
    refine Ev.ite_pos (by simp; omega) ?_
    simpa using Ev.now _
  | m + 1, done, rest, h, h2, h3 => by
    obtain ⟨x, xs, rfl⟩ : ∃ x xs, rest = x :: xs := by cases rest with | nil => cases h | cons x xs => exact ⟨x, xs, rfl⟩
    refine Ev.step (fun k => by rw [laws_toStringW.l1]) ?_
    refine Ev.ite_pos (by simp; omega) ?_
    refine Ev.ite_pos (by omega) ?_
    rw [w64 (x := (done.length : Int) + 1) (by omega)]
    have := toW_l1 l m (done ++ [spare]) xs (by simpa using h) (by simp; omega) (by simp; omega)
    have e : (done ++ x :: xs).set ((done.length : Int)).toNat (⟨#[126, 115, 112, 97, 114, 101, 126]⟩ : ByteArray) = (done ++ [spare]) ++ xs := by simp [spare]
    rw [e]
    have e2 : ((done.length : Int) + 1) = ((done ++ [spare]).length : Int) := by simp
    rw [e2]
    have e3 : done ++ List.replicate (m + 1) spare = (done ++ [spare]) ++ List.replicate m spare := by simp [List.replicate_succ]
    rw [e3]
    exact this
theorem toW_l0 (l : List ByteArray) (hl : l.length ≤ 1000000) (rm : Nat) (hrm : rm ≤ l.length + 1) : ∀ (m : Nat) (i : Nat), i + m = l.length → Ev (fun k => laws_toStringW.l0 k l (l.take i ++ List.replicate (m + rm) (⟨#[]⟩ : ByteArray)) (i : Int)) (l ++ List.replicate rm spare)
  | 0, i, h => by
    refine Ev.step (fun k => by rw [laws_toStringW.l0]) ?_
    refine Ev.ite_neg (by omega) ?_
    have := toW_l1 l rm l (List.replicate rm ⟨#[]⟩) (by simp) (by omega) (by omega)
    have e : l.take i = l := List.take_of_length_le (by omega)
    rw [e]
    simpa using this
  | m + 1, i, h => by
    refine Ev.step (fun k => by rw [laws_toStringW.l0]) ?_
    refine Ev.ite_pos (by omega) ?_
    refine Ev.ite_pos (by omega) ?_
    have hi : i < l.length := by omega
    refine Ev.ite_pos (by simp; omega) ?_
    rw [w64 (x := (i : Int) + 1) (by omega)]
    have := toW_l0 l hl rm hrm m (i + 1) (by omega)
    rw [rdOf_at _ _ i hi, Int.toNat_natCast]
    have e : (l.take i ++ List.replicate (m + 1 + rm) (⟨#[]⟩ : ByteArray)).set i l[i] = l.take (i + 1) ++ List.replicate (m + rm) (⟨#[]⟩ : ByteArray) := by
      have hlen : (l.take i).length = i := by simp; omega
      rw [List.set_append_right _ _ (by omega), hlen, Nat.sub_self, show m + 1 + rm = (m + rm) + 1 by omega, List.replicate_succ, List.set_cons_zero, List.take_succ_eq_append_getElem hi, List.append_assoc]
      rfl
    rw [e]
    exact_mod_cast this
theorem toW_ev (l : List ByteArray) (hl : l.length ≤ 1000000) (b : Bool) : Ev (fun k => laws_toStringW.f k l b) (whole l b) := by
  have hj : ∀ x : Bool, (x = true → l = []) → Ev (fun k => laws_toStringW.j0 k l x) (if x = true then [] else l ++ List.replicate (room l.length) spare) := by
    intro x hx
    refine Ev.step (fun k => by rw [laws_toStringW.j0]) ?_
    by_cases c : x = true
    · have := hx c
      subst this
      refine Ev.ite_pos c (Ev.ite_pos rfl ?_)
      rw [if_pos c]
      exact Ev.now _
    · have hr := room_le l.length
      refine Ev.ite_neg c (Ev.cbind (room_eq l.length) ?_)
      rw [if_neg c, w64 (by omega)]
      refine Ev.ite_pos (by omega) (Ev.ite_pos (by omega) ?_)
      have := toW_l0 l hl (room l.length) hr l.length 0 (by omega)
      have e : ((l.length : Int) + (room l.length : Int)).toNat = l.length + room l.length := by omega
      rw [e]
      simpa using this
  unfold laws_toStringW.f
  cases b with
  | true =>
    refine Ev.ite_pos rfl ?_
    have := hj ((l.length : Int) == 0) (by intro h; simpa using h)
    have e : whole l true = (if ((l.length : Int) == 0) = true then [] else l ++ List.replicate (room l.length) spare) := by
      unfold whole
      by_cases c : l = [] <;> simp [c]
    rw [e]
    exact this
  | false =>
    refine Ev.ite_neg (by decide) ?_
    have := hj false (by intro h; cases h)
    simpa [whole] using this
theorem whole_take (l : List ByteArray) (b : Bool) : (whole l b).take l.length = l := by
  unfold whole
  by_cases c : b = true ∧ l = []
  · rw [if_pos c, c.2]; rfl
  · rw [if_neg c, List.take_left']; rfl
theorem eqS_same (l : List ByteArray) (hl : l.length ≤ 3000000) : Ev (fun k => laws_eqStringS.f k l l) true := by
  have hlp : ∀ m i : Nat, i + m = l.length → Ev (fun k => laws_eqStringS.l0 k l l (i : Int)) true := by
    intro m
    induction m with
    | zero =>
      intro i h
      refine Ev.step (fun k => by rw [laws_eqStringS.l0]) ?_
      exact Ev.ite_neg (by omega) (Ev.now _)
    | succ m ih =>
      intro i h
      refine Ev.step (fun k => by rw [laws_eqStringS.l0]) ?_
      refine Ev.ite_pos (by omega) (Ev.ite_pos (by omega) (Ev.ite_pos (by omega) (Ev.ite_pos rfl ?_)))
      rw [w64 (x := (i : Int) + 1) (by omega)]
      exact_mod_cast ih (i + 1) (by omega)
  unfold laws_eqStringS.f
  exact Ev.ite_pos rfl (by simpa using hlp l.length 0 (by omega))
/-- szStringS tells a number, below nought or not; if not, the row is no longer than what was left, and so are its strings together. -/
theorem sz_ev (l : List ByteArray) (left : Nat) (hleft : left ≤ 1000000) (hl : (l.length : Int) ≤ 9223372036854775807) (hs : ∀ x ∈ l, x.size ≤ 9223372036854775807) : ∃ r, Ev (fun k => laws_szStringS.f k l (left : Int)) r ∧ (0 ≤ r → l.length ≤ left ∧ (l.map (·.size)).sum ≤ left) := by
  have hlp : ∀ (m i : Nat) (lf : Nat), i + m = l.length → lf ≤ 1000000 → l.length ≤ 1000000 → ∃ r, Ev (fun k => laws_szStringS.l0 k l (lf : Int) (i : Int)) r ∧ (0 ≤ r → ((l.drop i).map (·.size)).sum ≤ lf) := by
    intro m
    induction m with
    | zero =>
      intro i lf h h1 h2
      refine ⟨lf, ?_, fun _ => by rw [List.drop_of_length_le (by omega)]; simp⟩
      refine Ev.step (fun k => by rw [laws_szStringS.l0]) ?_
      exact Ev.ite_neg (by omega) (Ev.now _)
    | succ m ih =>
      intro i lf h h1 h2
      have hi : i < l.length := by omega
      have hsi := hs l[i] (List.getElem_mem hi)
      have e : rdOf ByteArray.empty l (i : Int) = l[i] := by rw [rdOf_at _ _ i hi]
      have ed : l.drop i = l[i] :: l.drop (i + 1) := List.drop_eq_getElem_cons hi
      by_cases c : (lf : Int) - (l[i].size : Int) < 0
      · refine ⟨-1, ?_, fun h => by omega⟩
        refine Ev.step (fun k => by rw [laws_szStringS.l0]) ?_
        refine Ev.ite_pos (by omega) (Ev.ite_pos (by omega) ?_)
        rw [e, w64 (by omega)]
        exact Ev.ite_pos c (Ev.now _)
      · obtain ⟨r, hr, hr2⟩ := ih (i + 1) (lf - l[i].size) (by omega) (by omega) h2
        refine ⟨r, ?_, fun h0 => ?_⟩
        · refine Ev.step (fun k => by rw [laws_szStringS.l0]) ?_
          refine Ev.ite_pos (by omega) (Ev.ite_pos (by omega) ?_)
          rw [e, w64 (x := (lf : Int) - (l[i].size : Int)) (by omega), w64 (x := (i : Int) + 1) (by omega)]
          refine Ev.ite_neg c ?_
          have e1 : (lf : Int) - (l[i].size : Int) = ((lf - l[i].size : Nat) : Int) := by omega
          have e2 : (i : Int) + 1 = ((i + 1 : Nat) : Int) := by omega
          rw [e1, e2]
          exact hr
        · have := hr2 h0
          rw [ed]
          simp only [List.map_cons, List.sum_cons]
          omega
  by_cases c : (left : Int) - (l.length : Int) < 0
  · refine ⟨-1, ?_, fun h => by omega⟩
    unfold laws_szStringS.f
    rw [w64 (by omega)]
    exact Ev.ite_pos c (Ev.now _)
  · obtain ⟨r, hr, hr2⟩ := hlp l.length 0 (left - l.length) (by omega) (by omega) (by omega)
    refine ⟨r, ?_, fun h0 => ⟨by omega, by have := hr2 h0; simp only [List.drop_zero] at this; omega⟩⟩
    unfold laws_szStringS.f
    rw [w64 (by omega)]
    refine Ev.ite_neg c ?_
    have e1 : (left : Int) - (l.length : Int) = ((left - l.length : Nat) : Int) := by omega
    rw [e1]
    exact hr
end Go.Proofs.YtbaephhcniginaaDoor.J
