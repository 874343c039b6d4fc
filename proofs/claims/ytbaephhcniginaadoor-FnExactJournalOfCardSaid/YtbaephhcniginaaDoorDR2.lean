/- Plain laws of numbers in decimal, check numbers, and texts cut at a byte: what the printed functions come to; the conditions stand in each theorem. -/
import Derived.Test.YtbaephhcniginaaDoorPE
import Derived.Test.YtbaephhcniginaaDoorPJx1
import Derived.Test.YtbaephhcniginaaDoorPJx2
import Derived.Test.YtbaephhcniginaaDoorPJx3
import Derived.Test.YtbaephhcniginaaDoorPJx5
import Derived.Test.YtbaephhcniginaaDoorPJx6
namespace Go.Proofs.YtbaephhcniginaaDoor.J
open Go.RowKit Go.Proofs.YtbaephhcniginaaDoorW.PrintWords Go.Proofs.YtbaephhcniginaaDoorW.PrintLast Go.Proofs.YtbaephhcniginaaDoorW.PrintMore
/-- The check number behind a text. -/
def chk (n : Int) (l : List UInt8) : Int := l.foldl (fun n b => (439 * n + (b.toNat : Int) + 41) % 65129) n
theorem chk_range : ∀ (l : List UInt8) (n : Int), 0 ≤ n → n ≤ 65128 → 0 ≤ chk n l ∧ chk n l ≤ 65128
  | [], n, h0, h1 => ⟨h0, h1⟩
  | b :: l, n, h0, h1 => chk_range l ((439 * n + (b.toNat : Int) + 41) % 65129) (by omega) (by omega)
theorem chk_step {n : Int} (l : List UInt8) (i : Nat) (h : i < l.length) : chk n (l.drop i) = chk ((439 * n + ((l[i]).toNat : Int) + 41) % 65129) (l.drop (i + 1)) := by
  rw [List.drop_eq_getElem_cons h]
  rfl
theorem wrap_chk {n : Int} {b : UInt8} (h0 : 0 ≤ n) (h1 : n ≤ 65128) : Int.tmod (wrap64 ((wrap64 ((wrap64 (439 * n)) + (wrap64 ((b.toNat : Int))))) + 41)) 65129 = (439 * n + (b.toNat : Int) + 41) % 65129 := by
  have hb := b.toNat_lt
  rw [w64 (x := 439 * n) (by omega), w64 (x := (b.toNat : Int)) (by omega), w64 (x := 439 * n + (b.toNat : Int)) (by omega), w64 (by omega), tmod_pos (by omega)]
theorem check_l0 (l : List UInt8) (hl : l.length ≤ 1000000000000) : ∀ (d : Nat) (n : Int) (i : Nat), 0 ≤ n → n ≤ 65128 → i ≤ l.length → l.length - i ≤ d → Ev (fun k => spec_l01Check.l0 k n (ba l) (i : Int)) (chk n (l.drop i)) := by
  intro d
  induction d with
  | zero =>
    intro n i h0 h1 hi hd
    rw [List.drop_eq_nil_of_le (by omega)]
    exact Ev.step (fun k => rfl) (Ev.ite_neg (by rw [ba_size]; omega) (Ev.now _))
  | succ d ih =>
    intro n i h0 h1 hi hd
    by_cases h : i < l.length
    · refine Ev.step (fun k => rfl) (Ev.ite_pos (by rw [ba_size]; omega) (Ev.ite_pos (by omega) ?_))
      rw [bt_ba l i h, wrap_chk h0 h1, w64 (x := (i : Int) + 1) (by omega), chk_step l i h]
      exact ih _ (i + 1) (by omega) (by omega) (by omega) (by omega)
    · rw [List.drop_eq_nil_of_le (by omega)]
      exact Ev.step (fun k => rfl) (Ev.ite_neg (by rw [ba_size]; omega) (Ev.now _))
theorem check_ev (l : List UInt8) (hl : l.length ≤ 1000000000000) (n : Int) (h0 : 0 ≤ n) (h1 : n ≤ 65128) : Ev (fun k => spec_l01Check.f k n (ba l)) (chk n l) := by
  have := check_l0 l hl l.length n 0 h0 h1 (by omega) (by omega)
  rwa [List.drop_zero] at this
theorem checkOf_l0 (l : List UInt8) (hl : l.length ≤ 1000000000000) : ∀ (d : Nat) (n : Int) (i : Nat), 0 ≤ n → n ≤ 65128 → i ≤ l.length → l.length - i ≤ d → Ev (fun k => impl_CheckOf.l0 k n (ba l) (l.length : Int) (i : Int)) (chk n (l.drop i), true) := by
  intro d
  induction d with
  | zero =>
    intro n i h0 h1 hi hd
    rw [List.drop_eq_nil_of_le (by omega)]
    exact Ev.step (fun k => rfl) (Ev.ite_neg (by omega) (Ev.now _))
  | succ d ih =>
    intro n i h0 h1 hi hd
    by_cases h : i < l.length
    · refine Ev.step (fun k => rfl) (Ev.ite_pos (by omega) (Ev.ite_pos (by omega) (Ev.ite_pos (by rw [ba_size]; omega) ?_)))
      rw [bt_ba l i h, wrap_chk h0 h1, w64 (x := (i : Int) + 1) (by omega), chk_step l i h]
      exact ih _ (i + 1) (by omega) (by omega) (by omega) (by omega)
    · rw [List.drop_eq_nil_of_le (by omega)]
      exact Ev.step (fun k => rfl) (Ev.ite_neg (by omega) (Ev.now _))
theorem in_eq (n a b : Int) : impl_in.f n a b = some (decide (a ≤ n ∧ n ≤ b)) := by
  unfold impl_in.f
  by_cases h : n ≥ a
  · rw [if_pos h]
    have : decide (n ≤ b) = decide (a ≤ n ∧ n ≤ b) := by
      apply Bool.eq_iff_iff.2
      simp
      omega
    rw [this]
  · rw [if_neg h]
    have : decide (a ≤ n ∧ n ≤ b) = false := by simp; omega
    rw [this]
theorem checkOf_ev (l : List UInt8) (hl : l.length ≤ 1000000000000) (n : Int) (h0 : 0 ≤ n) (h1 : n ≤ 65128) : Ev (fun k => impl_CheckOf.f k n (ba l)) (chk n l, true) := by
  unfold impl_CheckOf.f
  refine Ev.cbind (in_eq _ _ _) (Ev.ite_pos (by simp; omega) ?_)
  have := checkOf_l0 l hl l.length n 0 h0 h1 (by omega) (by omega)
  rw [List.drop_zero] at this
  rw [ba_size]
  exact this
/-- Digits as numbers. -/
def dn (l : List UInt8) : List Int := l.map fun b => (b.toNat : Int)
theorem str_dn (l : List UInt8) : strOfNums (dn l) = ba l := by
  apply ba_ext
  rw [strOfNums_data, ba_data, dn, List.map_map]
  conv => rhs; rw [← List.map_id l]
  apply List.map_congr_left
  intro b _
  simp
theorem dn_append (a b : List UInt8) : dn (a ++ b) = dn a ++ dn b := by simp [dn]
theorem dn_digit (r : Nat) (h : r < 10) : ([(wrap64 (48 + (Int.tmod (r : Int) 10))) % 256] : List Int) = dn [UInt8.ofNat (48 + r)] := by
  rw [tmod_pos (by omega), w64 (by omega)]
  simp [dn]
  omega
theorem dec_l0 (x0 : Int) (hx : 0 ≤ x0) : ∀ (d : Nat) (r : Nat) (out : List UInt8), r ≤ d → r ≤ 1000000000000000000 → out.length + d ≤ 2000000000000000000000 → (out ≠ [] → 0 < r) → out.length ≤ 100 → d ≤ d →
    out.length + Lib.nDigits r ≤ 100 → Ev (fun k => spec_l01Dec.l0 k x0 (dn out) (r : Int)) (ba (Lib.decDigits r ++ out)) := by
  intro d
  induction d using Nat.strongRecOn with
  | _ d ih =>
    intro r out hr hm hb hne hl _ hnd
    have hcond : Ev (fun k => spec_l01Dec.j1 k x0 (dn out) (r : Int) true) (ba (Lib.decDigits r ++ out)) := by
      refine Ev.step (fun k => by rw [spec_l01Dec.j1]) ?_
      refine Ev.ite_pos rfl (Ev.ite_neg (by rw [tmod_pos (by omega)]; omega) (Ev.cbind rfl (Ev.ite_pos ?_ ?_)))
      · simp [dn]
        omega
      · have hdig : ([(wrap64 (48 + (Int.tmod (r : Int) 10))) % 256] : List Int) = dn [UInt8.ofNat (48 + r % 10)] := by
          have := dn_digit (r % 10) (by omega)
          rw [← this, tmod_pos (by omega), tmod_pos (by omega)]
          simp
        rw [hdig, ← dn_append]
        have hq : wrap64 (Int.tdiv (r : Int) 10) = ((r / 10 : Nat) : Int) := by
          rw [tdiv_pos (by omega), w64 (by omega)]
          simp
        rw [hq]
        by_cases h10 : r < 10
        · rw [show r / 10 = 0 by omega, Lib.decDigits, dif_pos h10, show r % 10 = r by omega]
          refine Ev.step (fun k => by rw [spec_l01Dec.l0]) ?_
          refine Ev.ite_neg (by simp [dn]; omega) ?_
          refine Ev.step (fun k => by rw [spec_l01Dec.j1]) ?_
          refine Ev.ite_neg (by simp) (Ev.ite_neg (by omega) ?_)
          rw [str_dn]
          exact Ev.now _
        · have hn : Lib.nDigits r = Lib.nDigits (r / 10) + 1 := Lib.nDigits_big h10
          have := ih (r / 10) (by omega) (r / 10) ([UInt8.ofNat (48 + r % 10)] ++ out) (Nat.le_refl _) (by omega) (by simp; omega) (fun _ => by omega) (by simp; omega) (Nat.le_refl _) (by simp; omega)
          rw [Lib.decDigits, dif_neg h10]
          rw [List.append_assoc]
          exact this
    by_cases h0 : out = []
    · subst h0
      refine Ev.step (fun k => by rw [spec_l01Dec.l0]) ?_
      exact Ev.ite_pos rfl hcond
    · have hp := hne h0
      refine Ev.step (fun k => by rw [spec_l01Dec.l0]) ?_
      refine Ev.ite_neg (by simp [dn]; exact h0) ?_
      have : (((r : Nat) : Int) != 0) = true := by simp; omega
      rw [this]
      exact hcond
theorem nDigits_le (r k : Nat) (hk : 1 ≤ k) (h : r < 10 ^ k) : Lib.nDigits r ≤ k := by
  induction k generalizing r with
  | zero => omega
  | succ k ih =>
    by_cases h10 : r < 10
    · rw [Lib.nDigits_small h10]; omega
    · rw [Lib.nDigits_big h10]
      by_cases hk0 : k = 0
      · subst hk0; simp at h; omega
      · have := ih (r / 10) (by omega) (by rw [Nat.pow_succ] at h; omega)
        omega
theorem dec_ev (n : Int) (h0 : 0 ≤ n) (h1 : n ≤ 1000000000000) : Ev (fun k => spec_l01Dec.f k n) (ba (Lib.itoa n)) := by
  obtain ⟨m, rfl⟩ := Int.eq_ofNat_of_zero_le h0
  have hi : Lib.itoa (m : Int) = Lib.decDigits m := by
    unfold Lib.itoa
    rw [if_neg (by omega), Int.toNat_natCast]
  rw [hi]
  have := dec_l0 (m : Int) h0 m m [] (Nat.le_refl _) (by omega) (by simp; omega) (fun h => absurd rfl h) (by simp) (Nat.le_refl _) (by
    have := nDigits_le m 13 (by omega) (by omega)
    simp; omega)
  rwa [List.append_nil] at this
theorem decimal_eq (n : Int) (h0 : 0 ≤ n) (h1 : n ≤ 1000000000000) : impl_Decimal.f n = some (ba (Lib.itoa n)) := by
  unfold impl_Decimal.f strconv_FormatInt.f
  rw [if_pos (by omega)]
  rfl
/-- A text's parts between marks. -/
def sp (c : UInt8) : List UInt8 → List (List UInt8)
  | [] => [[]]
  | b :: l => if b = c then [] :: sp c l else match sp c l with
    | [] => [[b]]
    | p :: r => (b :: p) :: r
theorem sp_ne (c : UInt8) : ∀ l, sp c l ≠ []
  | [] => by simp [sp]
  | b :: l => by
    unfold sp
    split
    · simp
    · split <;> simp
/-- The first part grown by what lies ahead of it. -/
def ahead (a : List UInt8) : List (List UInt8) → List (List UInt8)
  | [] => []
  | p :: r => (a ++ p) :: r
theorem ahead_nil (x : List (List UInt8)) : ahead [] x = x := by cases x <;> rfl
theorem ahead_step (a : List UInt8) (b c : UInt8) (l : List UInt8) (h : b ≠ c) : ahead a (sp c (b :: l)) = ahead (a ++ [b]) (sp c l) := by
  rw [sp, if_neg h]
  cases hs : sp c l with
  | nil => exact absurd hs (sp_ne c l)
  | cons p r => simp [ahead]
theorem cut_l0 (c : UInt8) (l : List UInt8) (hl : l.length ≤ 1000000000) : ∀ (d : Nat) (out : List ByteArray) (frm i : Nat), frm ≤ i → i ≤ l.length → l.length - i ≤ d → out.length + (l.length - i) ≤ 1000000000 →
    Ev (fun k => spec_l01Cut.l0 k (ba l) (c.toNat : Int) out (frm : Int) (i : Int)) (out ++ (ahead ((l.drop frm).take (i - frm)) (sp c (l.drop i))).map ba) := by
  intro d
  induction d with
  | zero =>
    intro out frm i hf hi hd ho
    have hii : i = l.length := by omega
    subst hii
    refine Ev.step (fun k => rfl) (Ev.ite_pos (by rw [ba_size]; omega) (Ev.ite_pos (by rw [ba_size]) (Ev.ite_pos (by omega) (Ev.ite_pos (by omega) (Ev.ite_pos (by omega) ?_)))))
    rw [List.drop_length, w64 (x := (l.length : Int) + 1) (by omega)]
    refine Ev.step (fun k => rfl) (Ev.ite_neg (by rw [ba_size]; omega) ?_)
    rw [ba_extract]
    have : out ++ (ahead ((l.drop frm).take (l.length - frm)) (sp c [])).map ba = out ++ [ba ((l.drop (frm : Int).toNat).take ((l.length : Int).toNat - (frm : Int).toNat))] := by simp [sp, ahead]
    rw [this]
    exact Ev.now _
  | succ d ih =>
    intro out frm i hf hi hd ho
    by_cases h : i = l.length
    · subst h
      refine Ev.step (fun k => rfl) (Ev.ite_pos (by rw [ba_size]; omega) (Ev.ite_pos (by rw [ba_size]) (Ev.ite_pos (by omega) (Ev.ite_pos (by omega) (Ev.ite_pos (by omega) ?_)))))
      rw [List.drop_length, w64 (x := (l.length : Int) + 1) (by omega)]
      refine Ev.step (fun k => rfl) (Ev.ite_neg (by rw [ba_size]; omega) ?_)
      rw [ba_extract]
      have : out ++ (ahead ((l.drop frm).take (l.length - frm)) (sp c [])).map ba = out ++ [ba ((l.drop (frm : Int).toNat).take ((l.length : Int).toNat - (frm : Int).toNat))] := by simp [sp, ahead]
      rw [this]
      exact Ev.now _
    · have hlt : i < l.length := by omega
      refine Ev.step (fun k => rfl) (Ev.ite_pos (by rw [ba_size]; omega) (Ev.ite_neg (by rw [ba_size]; omega) (Ev.ite_pos (by omega) (Ev.ite_pos (by rw [ba_size]; omega) ?_))))
      rw [bt_ba l i hlt, w64 (x := (i : Int) + 1) (by omega)]
      by_cases hc : l[i] = c
      · refine Ev.ite_pos (by rw [hc]) (Ev.ite_pos (by omega) (Ev.ite_pos (by omega) (Ev.ite_pos (by omega) ?_)))
        have := ih (out ++ [(ba l).extract (frm : Int).toNat (i : Int).toNat]) (i + 1) (i + 1) (Nat.le_refl _) (by omega) (by omega) (by simp; omega)
        rw [Nat.sub_self, List.take_zero, ahead_nil, List.append_assoc] at this
        have e : out ++ (ahead ((l.drop frm).take (i - frm)) (sp c (l.drop i))).map ba = out ++ ([(ba l).extract (frm : Int).toNat (i : Int).toNat] ++ (sp c (l.drop (i + 1))).map ba) := by
          rw [List.drop_eq_getElem_cons hlt, sp, if_pos hc, ba_extract]
          simp [ahead]
        rw [e]
        exact this
      · refine Ev.ite_neg (fun e => hc (UInt8.toNat_inj.1 (Int.ofNat.inj e))) ?_
        have := ih out frm (i + 1) (by omega) (by omega) (by omega) (by omega)
        have e : ahead ((l.drop frm).take (i - frm)) (sp c (l.drop i)) = ahead ((l.drop frm).take (i + 1 - frm)) (sp c (l.drop (i + 1))) := by
          rw [List.drop_eq_getElem_cons hlt, ahead_step _ _ _ _ hc]
          congr 1
          rw [show i + 1 - frm = (i - frm) + 1 by omega, List.take_succ_eq_append_getElem (by rw [List.length_drop]; omega), List.getElem_drop]
          congr 3
          omega
        rw [e]
        exact this
theorem cut_ev (c : UInt8) (l : List UInt8) (hl : l.length ≤ 1000000000) : Ev (fun k => spec_l01Cut.f k (ba l) (c.toNat : Int)) ((sp c l).map ba) := by
  have := cut_l0 c l hl l.length [] 0 0 (Nat.le_refl _) (Nat.zero_le _) (by omega) (by simpa using hl)
  unfold spec_l01Cut.f
  simpa [ahead_nil] using this
end Go.Proofs.YtbaephhcniginaaDoor.J
