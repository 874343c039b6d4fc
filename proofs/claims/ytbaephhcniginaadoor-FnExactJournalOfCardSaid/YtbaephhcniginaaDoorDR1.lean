/- Plain laws of the marks that the exact laws set: what a list is marked with is found again; no conditions but those that stand in each theorem. -/
import Derived.Test.YtbaephhcniginaaDoorPE
import Derived.Test.YtbaephhcniginaaDoorPJx8
import Derived.Test.YtbaephhcniginaaDoorPJx9
import Derived.Test.YtbaephhcniginaaDoorPJx7
namespace Go.Proofs.YtbaephhcniginaaDoor.J
open Go.RowKit Go.Proofs.YtbaephhcniginaaDoorW.PrintWords Go.Proofs.YtbaephhcniginaaDoorW.PrintLast Go.Proofs.YtbaephhcniginaaDoorW.PrintMore
theorem markText_l0 : ∀ (d : Nat) (n : Int) (t : ByteArray), n.toNat ≤ d → n ≤ 1000000000000 → t.size + 20 * d ≤ 1000000000000000 → ∃ r, Ev (fun k => laws_markText.l0 k n t) r := by
  intro d
  induction d with
  | zero =>
    intro n t hn _ ht
    refine ⟨_, Ev.step (fun k => rfl) (Ev.ite_neg (by omega) (Ev.ite_pos (by omega) (Ev.now _)))⟩
  | succ d ih =>
    intro n t hn hm ht
    by_cases h : n > 0
    · have h1 : wrap64 (Int.tdiv n 10) = n / 10 := by rw [tdiv_pos (by omega)]; exact w64 (by omega)
      have hs : (strOfNums ([(wrap64 (48 + (Int.tmod n 10))) % 256] : List Int)).size = 1 := by simp [strOfNums, ByteArray.size]
      obtain ⟨r, hr⟩ := ih (n / 10) (strOfNums ([(wrap64 (48 + (Int.tmod n 10))) % 256] : List Int) ++ t) (by omega) (by omega) (by rw [ByteArray.size_append, hs]; omega)
      refine ⟨r, Ev.step (fun k => rfl) (Ev.ite_pos h (Ev.cbind rfl (Ev.ite_pos (by rw [hs]; omega) ?_)))⟩
      rw [h1]
      exact hr
    · exact ⟨_, Ev.step (fun k => rfl) (Ev.ite_neg h (Ev.ite_pos (by omega) (Ev.now _)))⟩
theorem markText_ev (n : Int) (hn : n ≤ 1000000000000) (h0 : 0 ≤ n) : ∃ r, Ev (fun k => laws_markText.f k n) r := by
  by_cases h : n ≤ 0
  · exact ⟨_, Ev.ite_pos h (Ev.now _)⟩
  · obtain ⟨r, hr⟩ := markText_l0 n.toNat n ⟨#[]⟩ (Nat.le_refl _) hn (by
      show 0 + 20 * n.toNat ≤ _
      omega)
    exact ⟨r, Ev.ite_neg h hr⟩
/-- What is marked: from place i on, each text is that of the mark. -/
theorem mark_l0 : ∀ (d : Nat) (l : List ByteArray) (k0 i : Int), 0 ≤ i → 0 ≤ k0 → (l.length : Int) - i ≤ d → k0 + d ≤ 1000000000 → (l.length : Int) ≤ 1000000000 → i ≤ l.length →
    ∃ r : List ByteArray, Ev (fun k => laws_markStringS.l0 k l k0 i) (k0 + (l.length - i), r) ∧ r.length = l.length ∧ (∀ j : Nat, (j : Int) < i → r.getD j ByteArray.empty = l.getD j ByteArray.empty) ∧ ∀ j : Nat, i ≤ j → j < l.length → Ev (fun k => laws_markText.f k (k0 + (j - i))) (r.getD j ByteArray.empty) := by
  intro d
  induction d with
  | zero =>
    intro l k0 i h0 hk hd hb hl hi
    refine ⟨l, Ev.step (fun k => rfl) (Ev.ite_neg (by omega) ?_), rfl, fun _ _ => rfl, fun j h1 h2 => by omega⟩
    have : k0 + ((l.length : Int) - i) = k0 := by omega
    rw [this]
    exact Ev.now _
  | succ d ih =>
    intro l k0 i h0 hk hd hb hl hi
    by_cases h : i < (l.length : Int)
    · obtain ⟨t, ht⟩ := markText_ev k0 (by omega) hk
      obtain ⟨r, h1, h2, h3, h4⟩ := ih (l.set i.toNat t) (k0 + 1) (i + 1) (by omega) (by omega) (by rw [List.length_set]; omega) (by omega) (by rw [List.length_set]; omega) (by rw [List.length_set]; omega)
      rw [List.length_set] at h1 h2 h4
      refine ⟨r, Ev.step (fun k => rfl) (Ev.ite_pos h (Ev.bind ht (Ev.ite_pos h0 ?_))), h2, fun j hj => ?_, fun j hj1 hj2 => ?_⟩
      · rw [w64 (x := k0 + 1) (by omega), w64 (x := i + 1) (by omega)]
        have : k0 + ((l.length : Int) - i) = k0 + 1 + (l.length - (i + 1)) := by omega
        rw [this]
        exact h1
      · rw [h3 j (by omega), List.getD_eq_getElem?_getD, List.getElem?_set_ne (by omega), ← List.getD_eq_getElem?_getD]
      · by_cases hji : (j : Int) = i
        · have e : r.getD j ByteArray.empty = t := by
            rw [h3 j (by omega), List.getD_eq_getElem?_getD, show i.toNat = j by omega, List.getElem?_set_self hj2]
            rfl
          rw [e, show k0 + ((j : Int) - i) = k0 by omega]
          exact ht
        · have := h4 j (by omega) hj2
          rwa [show k0 + 1 + ((j : Int) - (i + 1)) = k0 + (j - i) by omega] at this
    · refine ⟨l, Ev.step (fun k => rfl) (Ev.ite_neg h ?_), rfl, fun _ _ => rfl, fun j h1 h2 => by omega⟩
      have : k0 + ((l.length : Int) - i) = k0 := by omega
      rw [this]
      exact Ev.now _
theorem held_l0 : ∀ (d : Nat) (r : List ByteArray) (k0 i : Int), 0 ≤ i → 0 ≤ k0 → (r.length : Int) - i ≤ d → k0 + d ≤ 1000000000 → (r.length : Int) ≤ 1000000000 → i ≤ r.length →
    (∀ j : Nat, i ≤ j → j < r.length → Ev (fun k => laws_markText.f k (k0 + (j - i))) (r.getD j ByteArray.empty)) → Ev (fun k => laws_heldStringS.l0 k r k0 i) (k0 + (r.length - i)) := by
  intro d
  induction d with
  | zero =>
    intro r k0 i h0 hk hd hb hl hi hm
    refine Ev.step (fun k => rfl) (Ev.ite_neg (by omega) ?_)
    have : k0 + ((r.length : Int) - i) = k0 := by omega
    rw [this]
    exact Ev.now _
  | succ d ih =>
    intro r k0 i h0 hk hd hb hl hi hm
    by_cases h : i < (r.length : Int)
    · have ht := hm i.toNat (by omega) (by omega)
      rw [show k0 + ((i.toNat : Int) - i) = k0 by omega] at ht
      refine Ev.step (fun k => rfl) (Ev.ite_pos h (Ev.ite_pos h0 (Ev.bind ht (Ev.ite_pos rfl ?_))))
      have := ih r (k0 + 1) (i + 1) (by omega) (by omega) (by omega) (by omega) hl (by omega) (fun j h1 h2 => by
        have := hm j (by omega) h2
        rwa [show k0 + ((j : Int) - i) = k0 + 1 + (j - (i + 1)) by omega] at this)
      rw [w64 (x := k0 + 1) (by omega), w64 (x := i + 1) (by omega)]
      rwa [show k0 + 1 + ((r.length : Int) - (i + 1)) = k0 + (r.length - i) by omega] at this
    · refine Ev.step (fun k => rfl) (Ev.ite_neg h ?_)
      have : k0 + ((r.length : Int) - i) = k0 := by omega
      rw [this]
      exact Ev.now _
/-- Marked, a list is held: the marks' end, twice. -/
theorem mark_held (l : List ByteArray) (hl : l.length ≤ 100000000) : ∃ r : List ByteArray, Ev (fun k => laws_markStringS.f k l 101) (101 + (l.length : Int), r) ∧ Ev (fun k => laws_heldStringS.f k r 101) (101 + (l.length : Int)) := by
  obtain ⟨r, h1, h2, _, h4⟩ := mark_l0 l.length l 101 0 (by omega) (by omega) (by omega) (by omega) (by omega) (by omega)
  refine ⟨r, ?_, ?_⟩
  · have : (101 : Int) + ((l.length : Int) - 0) = 101 + l.length := by omega
    rw [this] at h1
    exact h1
  · have := held_l0 r.length r 101 0 (by omega) (by omega) (by omega) (by omega) (by omega) (by omega) (by rw [h2]; exact h4)
    rw [h2] at this
    rwa [show (101 : Int) + ((l.length : Int) - 0) = 101 + l.length by omega] at this
theorem eqS_l0 (l : List ByteArray) (hl : (l.length : Int) ≤ 1000000000000) : ∀ (d : Nat) (i : Int), 0 ≤ i → (l.length : Int) - i ≤ d → Ev (fun k => laws_eqStringS.l0 k l l i) true := by
  intro d
  induction d with
  | zero => intro i h0 hd; exact Ev.step (fun k => rfl) (Ev.ite_neg (by omega) (Ev.now _))
  | succ d ih =>
    intro i h0 hd
    by_cases h : i < (l.length : Int)
    · refine Ev.step (fun k => rfl) (Ev.ite_pos h (Ev.ite_pos h0 (Ev.ite_pos h (Ev.ite_pos rfl ?_))))
      rw [w64 (x := i + 1) (by omega)]
      exact ih (i + 1) (by omega) (by omega)
    · exact Ev.step (fun k => rfl) (Ev.ite_neg h (Ev.now _))
theorem eqS (l : List ByteArray) (hl : (l.length : Int) ≤ 1000000000000) : Ev (fun k => laws_eqStringS.f k l l) true := Ev.ite_pos rfl (eqS_l0 l hl l.length 0 (by omega) (by omega))
end Go.Proofs.YtbaephhcniginaaDoor.J
