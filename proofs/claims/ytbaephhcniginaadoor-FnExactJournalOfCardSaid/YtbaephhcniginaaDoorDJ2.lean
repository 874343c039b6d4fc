/- The harness of the exact laws over rows of strings: toStringS with its spare capacity, intactStringS over whole blocks; conditions stand in each theorem. -/
import Derived.Test.YtbaephhcniginaaDoorGS
import Derived.Test.YtbaephhcniginaaDoorDR2
import Derived.Test.YtbaephhcniginaaDoorPJx7
import Derived.Test.YtbaephhcniginaaDoorPJx11
import Derived.Deep.QuietTactic
import Derived.BigQuiet
namespace Go.Proofs.YtbaephhcniginaaDoor.J
open Go.RowKit Go.Proofs.YtbaephhcniginaaDoorW.PrintWords Go.Proofs.YtbaephhcniginaaDoorW.PrintLast Go.Proofs.YtbaephhcniginaaDoorW.PrintMore
/-- the spare capacity behind n -/
def room (n : Nat) : Nat := if n % 6 = 5 then 0 else if n % 3 = 0 then 1 else n
theorem room_eq (n : Nat) : laws_roomBehind.f (n : Int) = some (room n : Int) := by
  unfold laws_roomBehind.f room
  rw [tmod_pos (by omega), tmod_pos (by omega)]
  by_cases c : n % 6 = 5
  · rw [if_pos c, if_pos (by omega)]; rfl
  · rw [if_neg c, if_neg (by omega)]
    by_cases d : n % 3 = 0
    · rw [if_pos d, if_pos (by omega)]; rfl
    · rw [if_neg d, if_neg (by omega)]
set_option maxHeartbeats 4000000 in
set_option maxRecDepth 100000 in
theorem intact_calls (k n : Nat) (A0 : Option Addr) (c0 : Nat) (l0 : List ByteArray) (A1 : Option Addr) (c1 : Nat) (l1 : List ByteArray) (r : Bool) (w : World) (hr0 : Kd.C Kd.string w A0 l0.length l0) (hc0 : l0.length ≤ c0) (hr1 : Kd.C Kd.string w A1 l1.length l1) (hc1 : l1.length ≤ c1)
    (hn : (n : Int) ≤ 1000000) (h0 : l0.length = n + room n) (h1 : l1.length = n + room n) (h : laws_eqStringS.f k l0 l1 = some r) :
    Calls Tryd.prog 15 #[.slice A0 n c0, .slice A1 n c1] w fun e w' => e = .returned (.bool r) ∧ Drawn0 w w' := by
  have hrm : room n ≤ n + 1 := by unfold room; split <;> (try split) <;> omega
  have e0 : wrap64 ((n : Int) + (room n : Int)) = (l0.length : Int) := by rw [w64 (by omega)]; omega
  have e0w : IntKind.i64.wrap ((n : Int) + (room n : Int)) = (l0.length : Int) := (i64_w _).trans e0
  have e1 : l1.length = l0.length := by omega
  have H0 := Aside0.mk hr0
  have H1 := Aside0.mk hr1
  have HQ : ∀ w' : World, Kd.C Kd.string w' A0 l0.length l0 → Kd.C Kd.string w' A1 l1.length l1 → Calls Tryd.prog 8 #[.slice A0 l0.length c0, .slice A1 l0.length c1] w' fun e w'' => e = .returned (.bool r) ∧ Drawn0 w' w'' := by
    intro w' a b
    have t := laws_eqStringS.calls k A0 c0 l0 A1 c1 l1 r w' a hc0 b hc1 h
    rw [e1] at t
    exact t
  have g0 : ((l0.length : Int) ≤ (c0 : Int)) := by omega
  have g1 : ((l0.length : Int) ≤ (c1 : Int)) := by omega
  have g2 : (0 : Int) ≤ (l0.length : Int) := by omega
  clear hr0 hr1 h h0 h1 hn hrm
  go_enter Tryd.func15, Tryd.ntmps15
  go_wp2_with (go_at_call 29; (with_reducible refine (laws_roomBehind.calls (n : Int) _ _ (room_eq n)).mono ?_); rintro e w' ⟨rfl, ⟨nd, rfl⟩⟩)
  go_quiet (first | (go_at_call 8; (with_reducible refine (HQ _ ?side1 ?side2).mono ?_); (case side1 => repeat (first | exact H0.out | (with_reducible refine Kd.C_drewN ?_ _) | (with_reducible refine Kd.C_drew ?_))); (case side2 => repeat (first | exact H1.out | (with_reducible refine Kd.C_drewN ?_ _) | (with_reducible refine Kd.C_drew ?_))); rintro e w' ⟨rfl, ⟨nd, rfl⟩⟩; (try first | exact ⟨rfl, _, World.drewN_drewN _ _ _⟩ | exact ⟨rfl, _, Eq.trans (World.drewN_drewN _ _ _) (congrArg (World.drewN _) (Nat.add_assoc _ _ _))⟩)))
  go_wp2
  go_ret
  exact ⟨rfl, by repeat (first | exact Drawn0.refl _ | apply Drawn0.step)⟩
end Go.Proofs.YtbaephhcniginaaDoor.J
