/- The call of impl.JournalOf, in the form of the printed contracts: it comes to 'joL' of its lines, for every list of lines; conditions: the library's variables hold what 'Env' says. -/
import Derived.Test.YtbaephhcniginaaDoorDB1
import Derived.Test.YtbaephhcniginaaDoorDR2
import Derived.Deep.LoopGhost
namespace Go.Proofs.YtbaephhcniginaaDoor.J
open Go.RowKit Go.Proofs.YtbaephhcniginaaDoorW.PrintWords Go.Proofs.YtbaephhcniginaaDoorW.PrintLast Go.Proofs.YtbaephhcniginaaDoorW.PrintMore
/-- What JournalOf does from a line on: the check number and what is written so far. -/
def joL : List ByteArray → Int → List UInt8 → List UInt8 × Bool
  | [], _, acc => if 6000 < acc.length then ([], false) else (acc, true)
  | l :: ls, c, acc => if 6000 < l.size then ([], false) else if Lib.contains l.data.toList [10] = true then ([], false) else if 6000 < acc.length then ([], false)
    else joL ls (chk c l.data.toList) (acc ++ (((Lib.itoa (chk c l.data.toList) ++ [32]) ++ l.data.toList) ++ [10]))
theorem isBuilder_below {T e : TypeId} {B b : Nat} {bs : List Value} {w w' : World} (h : Lib.IsBuilder T e B b bs w) (hb : Below w.heap.size w w') : Lib.IsBuilder T e B b bs w' := by
  have key : ∀ p, Lib.BuilderAt T e B b p bs w → Lib.BuilderAt T e B b p bs w' := by
    rintro p ⟨h1, v, h2, h3, h4⟩
    have hlt : b < w.heap.size := by
      rcases Nat.lt_or_ge b w.heap.size with h' | h'
      · exact h'
      · rw [Array.getElem?_eq_none h'] at h2; cases h2
    exact ⟨h1, v, by rw [hb.block b hlt]; exact h2, pw_own_below h3 hb, h4⟩
  rcases h with h | h
  · exact .inl (key _ h)
  · exact .inr (key _ h)
theorem strCells_byte (s : ByteArray) : Lib.strCells s = Lib.byteCells s.data.toList := by simp [Lib.strCells, Lib.byteCells]
set_option maxHeartbeats 4000000 in
set_option maxRecDepth 100000 in
theorem journalOf_calls (A0 : Option Addr) (c0 : Nat) (l0 : List ByteArray) (w : World) (hE : Env w) (hr0 : Kd.C Kd.string w A0 l0.length l0) (_ : l0.length ≤ c0) :
    Calls Tryd.prog 14 #[.slice A0 l0.length c0] w fun e w' => e = .returned (.tuple #[.string (ba (joL l0 0 []).1), .bool (joL l0 0 []).2]) ∧ Below w.heap.size w w' := by
  have HE := Aside0.mk hE
  have HR := Aside0.mk hr0
  have hl : (l0.length : Int) ≤ 9223372036854775807 := by
    have := hr0.2.1
    omega
  clear hE hr0
  obtain ⟨res, hres⟩ : ∃ r, r = joL l0 0 [] := ⟨_, rfl⟩
  have HRES := Aside0.mk hres.symm
  rw [← hres]
  clear hres
  go_enter Tryd.func14, Tryd.ntmps14
  go_wp2
  go_loopg [5, 11] l0.length (fun q v5 v11 w' => ∃ (i : Nat) (c : Int) (acc : List UInt8), v11 = .int .i64 i ∧ v5 = .int .i64 c ∧ i ≤ l0.length ∧ q = l0.length - i ∧ 0 ≤ c ∧ c ≤ 65128 ∧ acc.length ≤ 20000 ∧ Aside0 (joL (l0.drop i) c acc = res) ∧ Aside0 (Lib.IsBuilder 57 5 w.heap.size w.heap.size (Lib.byteCells acc) w') ∧ Aside0 (Below w.heap.size w w'))
  case atStart => exact ⟨0, 0, [], rfl, rfl, by omega, by omega, by omega, by omega, by simp, HRES, ⟨Lib.fresh_isBuilder _ _ _⟩, ⟨below_alloc (Below.refl _ _) _⟩⟩
  case round =>
    obtain ⟨i, c, acc, rfl, rfl, hi, hq, hc1, hc2, hacc, HJ, HIB, HB⟩ := hrel
    subst hq
    by_cases hlt : i < l0.length
    · obtain ⟨ad, rfl, hx⟩ := Kd.at_string (Kd.C_below HR.out HB.out) (i : Int) (by omega) (by omega)
      rw [rdOf_at _ _ i hlt, Int.toNat_natCast] at hx
      have HJ2 := HJ.out
      rw [List.drop_eq_getElem_cons hlt] at HJ2
      generalize l0[i] = ln at hx HJ2
      have HJ3 := Aside0.mk HJ2
      clear HJ2 HJ
      by_cases t1 : 6000 < ln.size
      · have HJ4 := HJ3.out
        rw [joL, if_pos t1] at HJ4
        subst HJ4
        have t1' : decide ((6000 : Int) < (ln.size : Int)) = true := decide_eq_true (by omega)
        go_wp2
        go_ret2
        exact ⟨rfl, HB.out⟩
      · have t1' : decide ((6000 : Int) < (ln.size : Int)) = false := decide_eq_false (by omega)
        have hcon : ∀ b, Lib.contains ln.data.toList [10] = b → strings_Contains.f ln ⟨#[10]⟩ = some b := by
          intro b hb
          unfold strings_Contains.f
          rw [if_pos (by omega)]
          exact congrArg some hb
        have hlb : ((Lib.byteCells acc).length : Int) = (acc.length : Int) := by rw [Lib.byteCells_length]
        by_cases t2 : Lib.contains ln.data.toList [10] = true
        · have HJ4 := HJ3.out
          rw [joL, if_neg t1, if_pos t2] at HJ4
          subst HJ4
          have HC := Aside0.mk (hcon true t2)
          clear hcon t2 hlb
          go_wp2_with (go_at_call 30; (refine (strings_Contains.calls ln ⟨#[10]⟩ true _ (HE.out.below HB.out) HC.out).mono ?_); rintro e w1 ⟨rfl, hb1⟩)
          go_ret2
          exact ⟨rfl, HB.out.trans (hb1.mono HB.out.size)⟩
        · have HC := Aside0.mk (hcon false (by simpa using t2))
          by_cases t3 : 6000 < acc.length
          · have HJ4 := HJ3.out
            rw [joL, if_neg t1, if_neg t2, if_pos t3] at HJ4
            subst HJ4
            have t3' : decide ((6000 : Int) < ((Lib.byteCells acc).length : Int)) = true := decide_eq_true (by omega)
            clear hcon t2 hlb
            go_wp2_with (first
              | (go_at_call 30; (refine (strings_Contains.calls ln ⟨#[10]⟩ false _ (HE.out.below HB.out) HC.out).mono ?_); rintro e w1 ⟨rfl, hb1⟩; have HB1 := Aside0.mk hb1; clear hb1)
              | (go_at_call 31; (refine (Tryd.Builder_Len w.heap.size w.heap.size (Lib.byteCells acc) _ (isBuilder_below HIB.out HB1.out)).mono ?_); rintro e w2 ⟨rfl, rfl⟩))
            go_ret2
            exact ⟨rfl, HB.out.trans (HB1.out.mono HB.out.size)⟩
          · have HJ4 := HJ3.out
            rw [joL, if_neg t1, if_neg t2, if_neg t3] at HJ4
            have HJ5 := Aside0.mk HJ4
            have t3' : decide ((6000 : Int) < ((Lib.byteCells acc).length : Int)) = false := decide_eq_false (by omega)
            have hsz : ln.data.toList.length ≤ 6000 := by simpa using Nat.le_of_not_lt t1
            have hck := chk_range ln.data.toList c hc1 hc2
            obtain ⟨kc, hkc⟩ := Ev.rounds (checkOf_ev ln.data.toList (by omega) c hc1 hc2)
            rw [← ba_of] at hkc
            have HKC := Aside0.mk hkc
            have HDC := Aside0.mk (decimal_eq (chk c ln.data.toList) hck.1 (by omega))
            have hit : (Lib.itoa (chk c ln.data.toList)).length ≤ 13 := by
              unfold Lib.itoa
              rw [if_neg (by omega), Lib.decDigits_length]
              exact nDigits_le _ 13 (by omega) (by omega)
            generalize hcc : chk c ln.data.toList = cc at hck hit HKC HDC HJ5
            have hbs : (ba (Lib.itoa cc)).size ≤ 13 := by rw [ba_size]; exact hit
            have hls : ln.size ≤ 6000 := by omega
            have HIT := Aside0.mk hit
            clear hcon t2 hlb hcc HJ4 hkc hit HJ3
            go_wp2_with (first
              | (go_at_call 30; (refine (strings_Contains.calls ln ⟨#[10]⟩ false _ (HE.out.below HB.out) HC.out).mono ?_); rintro e w1 ⟨rfl, hb1⟩; have HB1 := Aside0.mk hb1; clear hb1)
              | (go_at_call 31; (refine (Tryd.Builder_Len w.heap.size w.heap.size (Lib.byteCells acc) _ (isBuilder_below HIB.out HB1.out)).mono ?_); rintro e w2 ⟨rfl, rfl⟩)
              | (go_at_call 25; (refine (impl_CheckOf.calls kc c ln cc true _ HKC.out).mono ?_); rintro e w3 ⟨rfl, hd3⟩; have HB3 := Aside0.mk (HB1.out.trans (hd3.below.mono HB1.out.size)); clear hd3)
              | (go_at_call 26; (refine (impl_Decimal.calls cc (ba (Lib.itoa cc)) _ (HE.out.below (HB.out.trans (HB3.out.mono HB.out.size))) HDC.out).mono ?_); rintro e w4 ⟨rfl, hb4⟩; have HB4 := Aside0.mk (HB3.out.trans (hb4.mono HB3.out.size)); clear hb4))
            refine (writeString_calls w.heap.size w.heap.size (Lib.byteCells acc) _ _ (isBuilder_below HIB.out HB4.out) ?hlen (Nat.le_trans HB.out.size HB4.out.size)).mono ?_
            case hlen =>
              simp only [ByteArray.size_append, Lib.byteCells_length]
              have : ByteArray.size ⟨#[32]⟩ = 1 := rfl
              have : ByteArray.size ⟨#[10]⟩ = 1 := rfl
              omega
            rintro e w5 ⟨rfl, hB5, hb5⟩
            go_wp2
            go_roundg (l0.length - (i+1))
            case measure => omega
            refine ⟨i + 1, cc, acc ++ (((Lib.itoa cc ++ [32]) ++ ln.data.toList) ++ [10]), by simp, rfl, by omega, rfl, by omega, by omega, ?_, HJ5, ⟨.inr ?_⟩, ⟨?_⟩⟩
            · have := HIT.out
              simp only [List.length_append, List.length_cons, List.length_nil]
              omega
            · have hs : Lib.byteCells (acc ++ (((Lib.itoa cc ++ [32]) ++ ln.data.toList) ++ [10])) = Lib.byteCells acc ++ Lib.strCells (ba (Lib.itoa cc) ++ ⟨#[32]⟩ ++ ln ++ ⟨#[10]⟩) := by
                rw [strCells_byte]
                simp [Lib.byteCells, ba]
              rw [hs]
              exact hB5
            · exact (HB.out.trans (HB4.out.mono HB.out.size)).trans hb5
    · have hie : i = l0.length := by omega
      subst hie
      have HJ2 := HJ.out
      rw [List.drop_length] at HJ2
      have hlb : ((Lib.byteCells acc).length : Int) = (acc.length : Int) := by rw [Lib.byteCells_length]
      by_cases t3 : 6000 < acc.length
      · rw [joL, if_pos t3] at HJ2
        subst HJ2
        have t3' : decide ((6000 : Int) < ((Lib.byteCells acc).length : Int)) = true := decide_eq_true (by omega)
        clear hlb
        go_wp2_with (go_at_call 31; (refine (Tryd.Builder_Len w.heap.size w.heap.size (Lib.byteCells acc) _ HIB.out).mono ?_); rintro e w2 ⟨rfl, rfl⟩)
        go_ret2
        exact ⟨rfl, HB.out⟩
      · rw [joL, if_neg t3] at HJ2
        subst HJ2
        have t3' : decide ((6000 : Int) < ((Lib.byteCells acc).length : Int)) = false := decide_eq_false (by omega)
        clear hlb
        go_wp2_with (first
          | (go_at_call 31; (refine (Tryd.Builder_Len w.heap.size w.heap.size (Lib.byteCells acc) _ HIB.out).mono ?_); rintro e w2 ⟨rfl, rfl⟩)
          | (go_at_call 33; (refine (Tryd.Builder_String_any w.heap.size w.heap.size acc _ HIB.out HB.out.size).mono ?_); rintro e w2 ⟨rfl, hb2⟩))
        go_ret2
        exact ⟨rfl, HB.out.trans hb2⟩
end Go.Proofs.YtbaephhcniginaaDoor.J
