/- The library functions that this seat's laws call, in the form of the printed contracts: a Lean function for each, and that the call comes to it, where two variables of the library hold what 'Env' says. -/
import Derived.Test.YtbaephhcniginaaDoorShelf
import Derived.Test.YtbaephhcniginaaDoorPX
import Derived.Sort.Grow
namespace Go.Proofs.YtbaephhcniginaaDoor.J
open Go.RowKit Go.Proofs.YtbaephhcniginaaDoorW.PrintWords Go.Proofs.YtbaephhcniginaaDoorW.PrintLast Go.Proofs.YtbaephhcniginaaDoorW.PrintMore
/-- What is known of the library's variables: 'internal/bytealg.MaxLen' holds a number, and the table of powers of ten stands as it is laid. -/
structure Env (w : World) : Prop where
  maxLen : ∃ m : Int, w.cell? ⟨0, 0, none⟩ = some (.int .i64 m)
  pow10 : Lib.TabIs Tryd.prog w "internal/strconv.uint64pow10" .u64 Lib.pow10Tab
theorem pow10_global : ∃ g, Tryd.prog.globalNamed "internal/strconv.uint64pow10" = some g := Option.isSome_iff_exists.1 (by kernel_rfl)
theorem tab_below {n : String} {g : Nat} {k : IntKind} {zs : List Int} {w w' : World} (hg : Tryd.prog.globalNamed n = some g) (h : Lib.TabIs Tryd.prog w n k zs) (hb : Below w.heap.size w w') : Lib.TabIs Tryd.prog w' n k zs := by
  simp only [Lib.TabIs, World.var?, hg, Option.bind_some] at h ⊢
  rcases Nat.lt_or_ge g w.heap.size with h' | h'
  · rw [hb.block g h']
    exact h
  · rw [Array.getElem?_eq_none h'] at h
    cases h
theorem Env.below {w w' : World} (h : Env w) (hb : Below w.heap.size w w') : Env w' := by
  obtain ⟨⟨m, hm⟩, h2⟩ := h
  obtain ⟨g, hg⟩ := pow10_global
  exact ⟨⟨m, (hb.cell (World.block_lt_of_cell? w _ hm)).trans hm⟩, tab_below hg h2 hb⟩
def strings_IndexByte.f (a0 : ByteArray) (a1 : Int) : Option Int := some (Lib.indexByte a0.data.toList a1.toNat.toUInt8)
theorem strings_IndexByte.calls (a0 : ByteArray) (a1 : Int) (r : Int) (w : World) (h : strings_IndexByte.f a0 a1 = some r) :
    Calls Tryd.prog 23 #[.string a0, .int .u8 a1] w fun e w' => e = .returned (.int .i64 r) ∧ Drawn0 w w' := by
  simp only [strings_IndexByte.f, Option.some.injEq] at h
  subst h
  refine (Tryd.strings_IndexByte a0 a1 w).mono ?_
  rintro e w' ⟨rfl, rfl⟩
  exact ⟨rfl, ⟨0, rfl⟩⟩
def strings_Cut.f (a0 a1 : ByteArray) : Option (ByteArray × ByteArray × Bool) := if a0.size < 4294967281 then some (⟨(Lib.cut a0.data.toList a1.data.toList).1.toArray⟩, ⟨(Lib.cut a0.data.toList a1.data.toList).2.1.toArray⟩, (Lib.cut a0.data.toList a1.data.toList).2.2) else none
theorem below_drewN (w : World) (n : Nat) : Below w.heap.size w (w.drewN n) := by
  have := pw_below_drewN (Below.refl w.heap.size w) n
  exact this
theorem strings_Cut.calls (a0 a1 : ByteArray) (r1 r2 : ByteArray) (r3 : Bool) (w : World) (hE : Env w) (h : strings_Cut.f a0 a1 = some (r1, r2, r3)) :
    Calls Tryd.prog 24 #[.string a0, .string a1] w fun e w' => e = .returned (.tuple #[.string r1, .string r2, .bool r3]) ∧ Below w.heap.size w w' := by
  unfold strings_Cut.f at h
  by_cases c : a0.size < 4294967281
  · rw [if_pos c] at h
    simp only [Option.some.injEq, Prod.mk.injEq] at h
    obtain ⟨rfl, rfl, rfl⟩ := h
    obtain ⟨m, hm⟩ := hE.maxLen
    refine (Tryd.strings_Cut a0 a1 m w c hm).mono ?_
    rintro e w' ⟨rfl, n, rfl⟩
    exact ⟨rfl, below_drewN w n⟩
  · rw [if_neg c] at h
    cases h
def strings_Contains.f (a0 a1 : ByteArray) : Option Bool := if a0.size < 4294967281 then some (Lib.contains a0.data.toList a1.data.toList) else none
theorem strings_Contains.calls (a0 a1 : ByteArray) (r : Bool) (w : World) (hE : Env w) (h : strings_Contains.f a0 a1 = some r) :
    Calls Tryd.prog 30 #[.string a0, .string a1] w fun e w' => e = .returned (.bool r) ∧ Below w.heap.size w w' := by
  unfold strings_Contains.f at h
  by_cases c : a0.size < 4294967281
  · rw [if_pos c] at h
    simp only [Option.some.injEq] at h
    subst h
    obtain ⟨m, hm⟩ := hE.maxLen
    refine (Tryd.strings_Contains a0 a1 m w c hm).mono ?_
    rintro e w' ⟨rfl, rfl⟩
    exact ⟨rfl, Below.refl _ _⟩
  · rw [if_neg c] at h
    cases h
def strconv_FormatInt.f (a0 a1 : Int) : Option ByteArray := if a1 = 10 ∧ -9223372036854775808 ≤ a0 ∧ a0 ≤ 9223372036854775807 then some ⟨(Lib.itoa a0).toArray⟩ else none
theorem below_grow (w : World) (os : Array Obj) : Below w.heap.size w (Go.Sort.grow w os) := by
  refine ⟨rfl, rfl, rfl, by simp [Go.Sort.grow], fun k hk => ?_⟩
  simp only [Go.Sort.grow]
  rw [Array.getElem?_append_left hk]
theorem strconv_FormatInt.calls (a0 a1 : Int) (r : ByteArray) (w : World) (hE : Env w) (h : strconv_FormatInt.f a0 a1 = some r) :
    Calls Tryd.prog 42 #[.int .i64 a0, .int .i64 a1] w fun e w' => e = .returned (.string r) ∧ Below w.heap.size w w' := by
  unfold strconv_FormatInt.f at h
  by_cases c : a1 = 10 ∧ -9223372036854775808 ≤ a0 ∧ a0 ≤ 9223372036854775807
  · rw [if_pos c] at h
    simp only [Option.some.injEq] at h
    subst h
    obtain ⟨rfl, c1, c2⟩ := c
    have htab := hE.pow10
    have HT := Aside0.mk htab
    clear htab hE
    go_enter Tryd.func42, Tryd.ntmps42
    go_wp2_with (go_at_call 56; refine (Tryd.internal_strconv_FormatInt_10 a0 c1 c2 _ HT.out).mono ?_; rintro e w' ⟨rfl, k, os, rfl⟩)
    go_ret
    exact ⟨rfl, (below_drewN w k).trans (below_grow (w.drewN k) os)⟩
  · rw [if_neg c] at h
    cases h
end Go.Proofs.YtbaephhcniginaaDoor.J
