/- The call of spec.l11Lines, in the form of the printed contracts: the parts between newlines but the last, and the last; no condition but that the text is cut at all. -/
import Derived.Test.YtbaephhcniginaaDoorPJx1
import Derived.Deep.QuietTactic
import Derived.BigQuiet
namespace Go.Proofs.YtbaephhcniginaaDoor.J
open Go.RowKit Go.Proofs.YtbaephhcniginaaDoorW.PrintWords Go.Proofs.YtbaephhcniginaaDoorW.PrintLast Go.Proofs.YtbaephhcniginaaDoorW.PrintMore
def spec_l11Lines.f (k : Nat) (a0 : ByteArray) : Option (List ByteArray × ByteArray) := (spec_l01Cut.f k a0 10).bind fun t => if 0 < t.length then some (t.take (t.length - 1), rdOf ByteArray.empty t ((t.length - 1 : Nat) : Int)) else none
theorem spec_l11Lines.mono : ∀ a0 k, LeO (spec_l11Lines.f k a0) (spec_l11Lines.f (k + 1) a0) := by
  intro a0 k
  unfold spec_l11Lines.f
  exact LeO.bind (spec_l01Cut.mono _ _ _) (fun _ => LeO.refl _)
set_option maxHeartbeats 1000000 in
theorem spec_l11Lines.calls (k : Nat) (a0 : ByteArray) (r1 : List ByteArray) (r2 : ByteArray) (w : World) (h : spec_l11Lines.f k a0 = some (r1, r2)) :
    Calls Tryd.prog 20 #[.string a0] w fun e w' => ∃ v0_ : Value, e = .returned (.tuple #[v0_, .string r2]) ∧ Kd.R Kd.string 9 w' w.heap.size (fun _ => True) v0_ r1 ∧ Below w.heap.size w w' := by
  obtain ⟨t, ht, h⟩ := Option.bind_eq_some_iff.1 h
  by_cases c : 0 < t.length
  · rw [if_pos c] at h
    simp only [Option.some.injEq, Prod.mk.injEq] at h
    obtain ⟨rfl, rfl⟩ := h
    have HT := Aside0.mk ht
    clear ht
    go_enter Tryd.func20, Tryd.ntmps20
    go_wp2_with (go_at_call 38; (refine (spec_l01Cut.calls k a0 10 t _ HT.out).mono ?_); rintro e w1 ⟨v0, rfl, hR, hb⟩)
    have hown := Kd.own_of_R hR
    obtain ⟨g, cap, rfl, hg, hcap⟩ := hown.form c
    have hl : (t.length : Int) ≤ 9223372036854775807 := by
      rcases hown.2 with ⟨_, h1⟩ | ⟨g', cap', cur, he, _, _, h1, h2, _⟩
      · omega
      · simp only [maxLen] at h2
        omega
    have hc := (own_at_of (d := ByteArray.empty) hown ((t.length - 1 : Nat) : Int) (by omega) (by omega)).1
    rw [Int.toNat_natCast] at hc
    have hle : (t.length : Int) - 1 ≤ (cap : Int) := by
      have := (Kd.R_reads' hR).2.1
      omega
    have hle2 : (t.length : Int) ≤ (cap : Int) := by
      have := (Kd.R_reads' hR).2.1
      omega
    have hle3 : t.length - 1 ≤ cap := by omega
    have HR := Aside0.mk hR
    have HB := Aside0.mk hb
    have h1 : (1 : Int) ≤ (t.length : Int) := by omega
    have hnn : (0 : Int) ≤ (t.length : Int) - 1 := by omega
    have hlt : (t.length : Int) - 1 < (t.length : Int) := by omega
    clear hR hb hown hg hcap h
    go_quiet (fail)
    go_wp2
    go_ret2
    exact ⟨_, rfl, Kd.R_drewN (Kd.R_take HR.out (by omega)) _, pw_below_drewN HB.out _⟩
  · rw [if_neg c] at h
    cases h
end Go.Proofs.YtbaephhcniginaaDoor.J
