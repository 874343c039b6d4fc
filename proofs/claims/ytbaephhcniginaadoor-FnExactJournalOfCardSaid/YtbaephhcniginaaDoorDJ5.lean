/- The walk of the exact law of JournalOf: it tells true for every list of lines; conditions: the library's variables hold what 'Env' says, and each line is no longer than a value of this machine may be. -/
import Derived.Test.YtbaephhcniginaaDoorDJ4
namespace Go.Proofs.YtbaephhcniginaaDoor.J
open Go.RowKit Go.Proofs.YtbaephhcniginaaDoorW.PrintWords Go.Proofs.YtbaephhcniginaaDoorW.PrintLast Go.Proofs.YtbaephhcniginaaDoorW.PrintMore
theorem le_sum {l : List ByteArray} {x : ByteArray} (h : x ∈ l) : x.size ≤ (l.map (·.size)).sum := by
  induction l with
  | nil => cases h
  | cons y l ih =>
    simp only [List.map_cons, List.sum_cons]
    rcases List.mem_cons.1 h with rfl | h
    · omega
    · have := ih h
      omega
theorem toW_calls (A : Option Addr) (c : Nat) (l : List ByteArray) (b : Bool) (w : World) (hr : Kd.C Kd.string w A l.length l) (hc : l.length ≤ c) (hl : l.length ≤ 1000000) :
    Calls Tryd.prog 13 #[.slice A l.length c, .bool b] w fun e w' => ∃ (ao : Option Addr) (cap : Nat), e = .returned (.slice ao l.length cap) ∧ (Kd.C Kd.string w' ao (whole l b).length (whole l b) ∧ Kd.C Kd.string w' ao l.length l ∧ (whole l b).length ≤ cap ∧ l.length ≤ cap) ∧ Below w.heap.size w w' := by
  obtain ⟨k, hk⟩ := Ev.rounds (toW_ev l hl b)
  refine (laws_toStringW.calls k A c l b _ w hr hc hk).mono ?_
  rintro e w' ⟨ao, cap, rfl, hR, _, hb⟩
  have h1 := Kd.R_reads' hR
  have hle : l.length ≤ (whole l b).length := by
    have := congrArg List.length (whole_take l b)
    rw [List.length_take] at this
    omega
  have h2 := Kd.R_reads' (Kd.R_take hR hle)
  rw [whole_take] at h2
  exact ⟨ao, cap, rfl, ⟨h1.2.2, h2.2.2, h1.2.1, h2.2.1⟩, hb⟩
set_option maxHeartbeats 8000000 in
set_option maxRecDepth 100000 in
theorem journalOf_law (A0 : Option Addr) (c0 : Nat) (l0 : List ByteArray) (w : World) (hE : Env w) (hr0 : Kd.C Kd.string w A0 l0.length l0) (hc0 : l0.length ≤ c0) (hs : ∀ x ∈ l0, x.size ≤ 9223372036854775807) :
    Calls Tryd.prog 4 #[.slice A0 l0.length c0] w fun e w' => e = .returned (.bool true) ∧ Below w.heap.size w w' := by
  have hl : (l0.length : Int) ≤ 9223372036854775807 := by
    have := hr0.2.1
    omega
  obtain ⟨r, hr, hr2⟩ := sz_ev l0 1000000 (by omega) hl hs
  obtain ⟨k, hk⟩ := Ev.rounds hr
  have HE := Aside0.mk hE
  have HR := Aside0.mk hr0
  have HC := Aside0.mk hc0
  have HK := Aside0.mk hk
  clear hE hr0 hs hl hr hk
  by_cases t : r < 0
  · have t' : decide (r < 0) = true := decide_eq_true t
    clear hr2 hc0
    go_enter Tryd.func4, Tryd.ntmps4
    go_wp2_with (go_at_call 11; (refine (laws_szStringS.calls k A0 c0 l0 _ r _ HR.out HC.out HK.out).mono ?_); rintro e w1 ⟨rfl, ⟨nd, rfl⟩⟩)
    go_ret
    exact ⟨rfl, pw_below_drewN (Below.refl _ _) _⟩
  · have t' : decide (r < 0) = false := decide_eq_false t
    obtain ⟨hl, hsum⟩ := hr2 (by omega)
    have hs : ∀ x ∈ l0, x.size ≤ 1000000 := by
      intro x hx
      have : x.size ≤ (l0.map (·.size)).sum := le_sum hx
      omega
    obtain ⟨kj, hkj⟩ := Ev.rounds (jo_ev l0 hl hs)
    have HI : Aside0 (∀ (A : Option Addr) (c : Nat) (w' : World), Env w' → Kd.C Kd.string w' A l0.length l0 → l0.length ≤ c → Calls Tryd.prog 14 #[.slice A l0.length c] w' fun e w'' => e = .returned (.tuple #[.string (ba (joL l0 0 []).1), .bool (joL l0 0 []).2]) ∧ Below w'.heap.size w' w'') := ⟨fun A c w' a b d => journalOf_calls A c l0 w' a b d⟩
    generalize ba (joL l0 0 []).1 = J1 at hkj HI
    generalize (joL l0 0 []).2 = J2 at hkj HI
    have HJ := Aside0.mk hkj
    have HL := Aside0.mk hl
    have HW : Aside0 (∃ kw, laws_eqStringS.f kw (whole l0 false) (whole l0 false) = some true) := ⟨Ev.rounds (eqS_same _ (by
      have := room_le l0.length
      unfold whole
      split
      · simp
      · simp only [List.length_append, List.length_replicate]; omega))⟩
    have HN : Aside0 ((whole l0 false).length = l0.length + room l0.length) := ⟨by simp [whole]⟩
    clear hs hkj hsum hr2 hl
    go_enter Tryd.func4, Tryd.ntmps4
    go_wp2_with (go_at_call 11; (refine (laws_szStringS.calls k A0 c0 l0 _ r _ HR.out HC.out HK.out).mono ?_); rintro e w1 ⟨rfl, ⟨nd, rfl⟩⟩; have HB := Aside0.mk (pw_below_drewN (Below.refl w.heap.size w) nd))
    go_wp2_with (go_at_call 13; (refine (toW_calls A0 c0 l0 false _ (Kd.C_below HR.out HB.out) HC.out HL.out).mono ?_); rintro e w2 ⟨ao1, cap1, rfl, ⟨_, ht1, _, hc1⟩, hb⟩; have HB1 := Aside0.mk (HB.out.trans (hb.mono HB.out.size)); clear hb; have HT1 := Aside0.mk ht1; have HC1 := Aside0.mk hc1; clear ht1 hc1 HB)
    go_wp2_with (go_at_call 12; (refine (spec_JournalOf.calls kj ao1 cap1 l0 J1 J2 _ HT1.out HC1.out HJ.out).mono ?_); rintro e w3 ⟨rfl, hb⟩; have HB := Aside0.mk (HB1.out.trans (hb.mono HB1.out.size)); clear hb HB1 HT1 HC1)
    go_wp2_with (go_at_call 13; (refine (toW_calls A0 c0 l0 false _ (Kd.C_below HR.out HB.out) HC.out HL.out).mono ?_); rintro e w4 ⟨ao2, cap2, rfl, ⟨hw2, ht2, hc3, hc2⟩, hb⟩; have HB1 := Aside0.mk (HB.out.trans (hb.mono HB.out.size)); clear hb; have HW2 := Aside0.mk hw2; have HT2 := Aside0.mk ht2; have HC2 := Aside0.mk hc2; have HC3 := Aside0.mk hc3; clear ht2 hc2 hw2 hc3 HB)
    go_wp2_with (go_at_call 14; (refine (HI.out ao2 cap2 _ (HE.out.below HB1.out) HT2.out HC2.out).mono ?_); rintro e w5 ⟨rfl, hb⟩; have HB := Aside0.mk (HB1.out.trans (hb.mono HB1.out.size)); have HW3 := Aside0.mk (Kd.C_below HW2.out hb); clear hb HB1 HT2 HC2 HW2)
    go_wp2_with (go_at_call 13; (refine (toW_calls A0 c0 l0 false _ (Kd.C_below HR.out HB.out) HC.out HL.out).mono ?_); rintro e w6 ⟨ao4, cap4, rfl, ⟨hw4, _, hc4, _⟩, hb⟩; have HB1 := Aside0.mk (HB.out.trans (hb.mono HB.out.size)); have HW4 := Aside0.mk (Kd.C_below HW3.out hb); clear hb; have HW5 := Aside0.mk hw4; have HC5 := Aside0.mk hc4; clear hw4 hc4 HB HW3)
    obtain ⟨kw, hkw⟩ := HW.out
    have HKW := Aside0.mk hkw
    clear hkw HW
    go_wp2_with (go_at_call 15; (refine (intact_calls kw l0.length ao2 cap2 (whole l0 false) ao4 cap4 (whole l0 false) true _ HW4.out HC3.out HW5.out HC5.out (by have := HL.out; omega) HN.out HN.out HKW.out).mono ?_); rintro e w7 ⟨rfl, ⟨nd, rfl⟩⟩; have HB := Aside0.mk (pw_below_drewN HB1.out nd); clear HB1 HW4 HW5)
    go_wp2_with (go_at_call 13; (refine (toW_calls A0 c0 l0 true _ (Kd.C_below HR.out HB.out) HC.out HL.out).mono ?_); rintro e w8 ⟨ao5, cap5, rfl, ⟨_, ht1, _, hc1⟩, hb⟩; have HB1 := Aside0.mk (HB.out.trans (hb.mono HB.out.size)); clear hb; have HT1 := Aside0.mk ht1; have HC1 := Aside0.mk hc1; clear ht1 hc1 HB)
    go_wp2_with (go_at_call 14; (refine (HI.out ao5 cap5 _ (HE.out.below HB1.out) HT1.out HC1.out).mono ?_); rintro e w9 ⟨rfl, hb⟩; have HB := Aside0.mk (HB1.out.trans (hb.mono HB1.out.size)); clear hb HB1 HT1 HC1)
    go_ret
    exact ⟨rfl, HB.out⟩
end Go.Proofs.YtbaephhcniginaaDoor.J
