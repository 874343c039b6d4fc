/- Two laws beside the printed words, for any program: 'make([]T, 0, n)' makes an empty row of one's own, and 'copy' into a row of one's own as a step with a post-condition; no conditions but those that stand in each theorem. -/
import Derived.Test.YtbaephhcniginaaDoorWNEv
import Derived.Test.YtbaephhcniginaaDoorWMore
import Derived.Test.YtbaephhcniginaaDoorWLast
namespace Go.Proofs.YtbaephhcniginaaDoorW.PrintWords
open Go.RowKit
namespace Kd
section
variable {α : Type} {P : Program} {ops : Array Oper} {rest : List Oper} {o : Oper} {a : Act} {Q : Exit → Act → World → Prop}
theorem R_make0 (d : Kd α) {w0 W : World} (base e : Nat) (hgd : o.guard = none) {N : Tmp} (_hd : o.dst = some N) (t : TypeId) (x y : Operand) (ho : o.op = .makeSlice t x y) (n : Int) (hx : a.eval x = .int .i64 0) (hy : a.eval y = .int .i64 n)
    (ht : P.underlying t = some (.slice e)) (z : Value) (bytes : Nat) (hinfo : (P.info? e).map (fun i => (i.zero, i.size, i.bytes)) = some (some z, d.sz, bytes)) (hz : z.cells.size = d.sz) (hs0 : 0 < d.sz) (hb0 : 0 < bytes)
    (z0 : α) {ok okp : Nat → Prop} (hzero : d.M W base okp z0 z.cells.toList) (hok : ∀ k, okp k → ok k) (hfresh : ok W.heap.size) (h0 : 0 ≤ n) (hl : n.toNat * bytes ≤ 281474976710656) (HB : Below base w0 W) (hbase : base ≤ W.heap.size)
    (h : ∀ v1 w1, d.R e w1 base ok v1 ([] : List α) → Below base w0 w1 → W.grownBy w1 none → (∃ b, v1.ownBlock = some b ∧ W.heap.size ≤ b) → wpList P ops Q rest (a.put o.dst v1) w1) : wpList P ops Q (o :: rest) a W := by
  obtain ⟨m, rfl⟩ := Int.eq_ofNat_of_zero_le h0
  simp only [Int.toNat_natCast] at hl
  obtain ⟨i0, hi, hzz⟩ := Option.map_eq_some_iff.1 hinfo
  simp only [Prod.mk.injEq] at hzz
  obtain ⟨hz0, hz1, hz2⟩ := hzz
  have hm : m ≤ 281474976710656 := Nat.le_trans (Nat.le_mul_of_pos_right _ hb0) hl
  have hr := run_make (P := P) W t e i0 z ht hi hz0 .i64 .i64 (0 : Int) (m : Int) (by omega) (by omega)
    (by
      have h3 : ((i0.bytes * m : Nat) : Int) ≤ 281474976710656 := by rw [hz2, Nat.mul_comm]; omega
      rwa [Int.natCast_mul] at h3) (by omega)
  simp only [Int.toNat_natCast] at hr
  rw [hz1] at hr
  have hrow : d.R e (W.alloc (.cells (madeCells z.cells (m * d.sz)) e)) base ok (.slice (some ⟨W.heap.size, 0, none⟩) (List.replicate m z0).length (List.replicate m z0).length) (List.replicate m z0) := by
    have hrep := reps_made hz hs0 hzero m
    refine ⟨fun k hk => ?_, (madeCells z.cells (m * d.sz)).toList, ?_, ?_⟩
    · have : W.heap.size = k := by simpa [Value.ownBlock] using hk
      subst this
      exact hfresh
    · have h2 := World.ownsRow_lit (base := base) (e := e) (size := d.sz) W (madeCells z.cells (m * d.sz)) (List.replicate m z0).length hbase (by simp [maxLen]; omega) (by simpa using hrep.1)
      simpa using h2
    · refine hrep.imp_ fun p c hp => ?_
      have := d.M_move (w1 := W.alloc (.cells (madeCells z.cells (m * d.sz)) e)) (fun k hk => ?_) (d.M_bound hp)
      · refine d.M_mono (fun k hk => ⟨hok k hk.1, fun he => ?_⟩) this
        have : k = W.heap.size := by simpa [Value.ownBlock] using he
        omega
      · exact (World.grownBy_alloc W _ none).block k hk.2.2.1 (by simp)
  have htake := R_take (m := 0) hrow (Nat.zero_le _)
  rw [List.take_zero] at htake
  have hrun : (execOp a.eval o).run P W = .ok (.value (.slice (some ⟨W.heap.size, 0, none⟩) 0 m)) (W.alloc (.cells (madeCells z.cells (m * d.sz)) e)) := by
    simp [execOp, ho, hx, hy, hr]
  rw [List.length_replicate] at htake
  exact event_run hgd hrun (h _ _ htake (HB.alloc hbase _) (World.grownBy_alloc W _ none) ⟨W.heap.size, by simp [Value.ownBlock], Nat.le_refl _⟩)
end
end Kd
/-- copy(d, s), whatever comes behind it: Q holds of what it hands back and of the world. -/
def CopyRun (P : Program) (t : TypeId) (d s : Value) (w : World) (Q : Ending → World → Prop) : Prop :=
  ∀ (ops : Array Oper) (rest : List Oper) (o : Oper) (a : Act) (R : Exit → Act → World → Prop) (x y : Operand), o.guard = none → o.op = .call { callee := .builtin .copy, args := #[x, y], argTypes := #[t, t] } → a.eval x = d → a.eval y = s →
    (∀ e w', Q e w' → ∀ v, e = .returned v → wpList P ops R rest (a.put o.dst v) w') → wpList P ops R (o :: rest) a w
theorem CopyRun.mono {P : Program} {t : TypeId} {d s : Value} {w : World} {Q Q' : Ending → World → Prop} (h : CopyRun P t d s w Q) (hq : ∀ e w', Q e w' → Q' e w') : CopyRun P t d s w Q' :=
  fun ops rest o a R x y hg ho hx hy k => h ops rest o a R x y hg ho hx hy fun e w' q => k e w' (hq e w' q)
theorem goesL_copy {P : Program} {ops : Array Oper} {rest : List Oper} {oi : Oper} {a : Act} {w : World} {Q : Exit → Act → World → Prop} (N : Option Tmp) (hd : oi.dst = N) (hg : oi.guard = none) {x y : Operand} {t : TypeId}
    (hop : oi.op = .call { callee := .builtin .copy, args := #[x, y], argTypes := #[t, t] }) (d s : Value) (hx : a.eval x = d) (hy : a.eval y = s)
    (h : CopyRun P t d s w fun e w' => ∃ v, e = .returned v ∧ wpList P ops Q rest (a.put N v) w') : wpList P ops Q (oi :: rest) a w := by
  refine h ops rest oi a Q x y hg hop hx hy fun e w' hq v hv => ?_
  obtain ⟨v', hv', hk⟩ := hq
  subst hd
  rw [hv] at hv'
  injection hv' with hv'
  subst hv'
  exact hk
theorem copy_calls {P : Program} {t e : TypeId} {ik : IntKind} (ht : P.underlying t = some (.slice e)) (hinfo : (P.info? e).map (·.size) = some 1) (P0_ : Nat → Prop) (u : Value) (l0 : List Int) (A1 : Option Addr) (c1 : Nat) (l1 : List Int) (w0 w : World) (hB : Below w0.heap.size w0 w) (ho0 : Kd.R (Kd.int ik) e w w0.heap.size P0_ u l0)
    (hr1 : Kd.C (Kd.int ik) w A1 l1.length l1) :
    CopyRun P t u (.slice A1 l1.length c1) w fun en w' => en = .returned (.int .i64 ((min l1.length l0.length : Nat) : Int)) ∧ Kd.R (Kd.int ik) e w' w0.heap.size (fun k_ => (P0_ k_ ∨ w.heap.size ≤ k_)) u (l1.take (min l1.length l0.length) ++ l0.drop (min l1.length l0.length)) ∧ Below w0.heap.size w0 w' ∧ Kept w w' (fun k_ => P0_ k_) := by
  intro ops rest o a R x y hg ho hx hy k
  refine Kd.R_copy (0 : Int) w0.heap.size hg x y t t e ho ht hinfo u l0 l1 A1 l1.length c1 P0_ hx hy ho0 hr1 hB hB.size ?_
  intro w1 hrow hb1 hg1
  refine k _ w1 ⟨rfl, Kd.R_mono hrow (fun k_ hk => .inl hk), hb1, ?_⟩ _ rfl
  exact Kept.of_grown hg1 (Kept.refl w _) (fun k_ hk => .inl (ho0.1 k_ hk))
end Go.Proofs.YtbaephhcniginaaDoorW.PrintWords
