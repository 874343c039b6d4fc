/- RecoverJournal: the program's and the reference's printed functions come to one value, for every text of at most 1000000 bytes; and so the exact law holds of the printed functions. -/
import Derived.Test.YtbaephhcniginaaDoorDR1
import Derived.Test.YtbaephhcniginaaDoorDR2
import Derived.Test.YtbaephhcniginaaDoorPJx4
import Derived.Test.YtbaephhcniginaaDoorPJx10
namespace Go.Proofs.YtbaephhcniginaaDoor.J
open Go.RowKit Go.Proofs.YtbaephhcniginaaDoorW.PrintWords Go.Proofs.YtbaephhcniginaaDoorW.PrintLast Go.Proofs.YtbaephhcniginaaDoorW.PrintMore
/-- What is recovered of lines: the texts, and how many bytes they take in the journal. -/
def recov : List (List UInt8) → Int → List (List UInt8) × Nat
  | [], _ => ([], 0)
  | l :: ls, c =>
    if l.findIdx (· == 32) < l.length then
      if l.take (l.findIdx (· == 32)) = Lib.itoa (chk c (l.drop (l.findIdx (· == 32) + 1))) then
        (l.drop (l.findIdx (· == 32) + 1) :: (recov ls (chk c (l.drop (l.findIdx (· == 32) + 1)))).1, l.length + 1 + (recov ls (chk c (l.drop (l.findIdx (· == 32) + 1)))).2)
      else ([], 0)
    else ([], 0)
theorem spec_inner (lines : List (List UInt8)) (x7 : List ByteArray) (x8 x9 : Int) (i : Nat) (hi : i < lines.length) (hb : ∀ l ∈ lines, l.length ≤ 6000) (res) 
    (hj : Ev (fun k => spec_RecoverJournal.j2 k (lines.map ba) x7 x8 x9 (i : Int) ((lines[i].findIdx (· == 32) : Nat) : Int)) res) :
    ∀ (d : Nat) (j : Nat), j ≤ lines[i].findIdx (· == 32) → lines[i].findIdx (· == 32) - j ≤ d → Ev (fun k => spec_RecoverJournal.l1 k (lines.map ba) x7 x8 x9 (i : Int) (j : Int)) res := by
  have hrd : rdOf ByteArray.empty (lines.map ba) (i : Int) = ba lines[i] := by rw [rdOf_at _ _ i (by simpa using hi), List.getElem_map]
  have hle := hb lines[i] (List.getElem_mem hi)
  have hfl : lines[i].findIdx (· == 32) ≤ lines[i].length := List.findIdx_le_length
  intro d
  induction d with
  | zero =>
    intro j h1 h2
    have e : j = lines[i].findIdx (· == 32) := by omega
    rw [e]
    refine Ev.step (fun k => by rw [spec_RecoverJournal.l1]) ?_
    refine Ev.ite_pos (by omega) (Ev.ite_pos (by simp; omega) ?_)
    rw [hrd]
    by_cases hlt : lines[i].findIdx (· == 32) < lines[i].length
    · refine Ev.ite_pos (by rw [ba_size]; omega) (Ev.ite_pos (by omega) (Ev.ite_pos ?_ hj))
      rw [bt_ba _ _ hlt]
      have := List.findIdx_getElem (w := hlt)
      simp at this
      rw [this]
      rfl
    · exact Ev.ite_neg (by rw [ba_size]; omega) hj
  | succ d ih =>
    intro j h1 h2
    by_cases e : j = lines[i].findIdx (· == 32)
    · exact (by
        have := fun (h : lines[i].findIdx (· == 32) - j ≤ 0) => h
        rw [e]
        refine Ev.step (fun k => by rw [spec_RecoverJournal.l1]) ?_
        refine Ev.ite_pos (by omega) (Ev.ite_pos (by simp; omega) ?_)
        rw [hrd]
        by_cases hlt : lines[i].findIdx (· == 32) < lines[i].length
        · refine Ev.ite_pos (by rw [ba_size]; omega) (Ev.ite_pos (by omega) (Ev.ite_pos ?_ hj))
          rw [bt_ba _ _ hlt]
          have := List.findIdx_getElem (w := hlt)
          simp at this
          rw [this]
          rfl
        · exact Ev.ite_neg (by rw [ba_size]; omega) hj)
    · have hlt : j < lines[i].length := by omega
      refine Ev.step (fun k => by rw [spec_RecoverJournal.l1]) ?_
      refine Ev.ite_pos (by omega) (Ev.ite_pos (by simp; omega) ?_)
      rw [hrd]
      refine Ev.ite_pos (by rw [ba_size]; omega) (Ev.ite_pos (by omega) (Ev.ite_neg ?_ ?_))
      · rw [bt_ba _ _ hlt]
        intro hc
        have := List.not_of_lt_findIdx (p := (· == 32)) (xs := lines[i]) (i := j) (by omega)
        simp at this
        exact this (UInt8.toNat_inj.1 (Int.ofNat.inj hc))
      · rw [w64 (x := (j : Int) + 1) (by omega)]
        exact ih (j + 1) (by omega) (by omega)
theorem spec_loop (lines : List (List UInt8)) (hb : ∀ l ∈ lines, l.length ≤ 6000) (hn : lines.length ≤ 10000) :
    ∀ (d : Nat) (x7 : List ByteArray) (c x9 : Int) (i : Nat), i ≤ lines.length → lines.length - i ≤ d → 0 ≤ c → c ≤ 65128 → 0 ≤ x9 → x9 + 6001 * d ≤ 1000000000000 → x7.length + d ≤ 1000000000 →
    Ev (fun k => spec_RecoverJournal.l0 k (lines.map ba) x7 c x9 (i : Int)) (x7 ++ (recov (lines.drop i) c).1.map ba, x9 + (recov (lines.drop i) c).2, true) := by
  intro d
  induction d with
  | zero =>
    intro x7 c x9 i hi hd h0 h1 h2 h3 h4
    refine Ev.step (fun k => by rw [spec_RecoverJournal.l0]) ?_
    refine Ev.ite_neg (by simp; omega) ?_
    rw [List.drop_eq_nil_of_le (by omega)]
    have : (x7 ++ (recov [] c).1.map ba, x9 + ((recov [] c).2 : Int), true) = (x7, x9, true) := by simp [recov]
    rw [this]
    exact Ev.now _
  | succ d ih =>
    intro x7 c x9 i hi hd h0 h1 h2 h3 h4
    by_cases h : i < lines.length
    · have hrd : rdOf ByteArray.empty (lines.map ba) (i : Int) = ba lines[i] := by rw [rdOf_at _ _ i (by simpa using h), List.getElem_map]
      have hle := hb lines[i] (List.getElem_mem h)
      refine Ev.step (fun k => by rw [spec_RecoverJournal.l0]) ?_
      refine Ev.ite_pos (by simp; omega) ?_
      refine spec_inner lines x7 c x9 i h hb _ ?_ _ 0 (Nat.zero_le _) (Nat.le_refl _)
      refine Ev.step (fun k => by rw [spec_RecoverJournal.j2]) ?_
      refine Ev.ite_pos (by omega) (Ev.ite_pos (by simp; omega) ?_)
      rw [hrd, List.drop_eq_getElem_cons h, recov]
      have hfl : lines[i].findIdx (· == 32) ≤ lines[i].length := List.findIdx_le_length
      generalize lines[i].findIdx (· == 32) = m at hfl ⊢
      by_cases hm : m < lines[i].length
      · rw [if_pos hm]
        refine Ev.ite_neg (by rw [ba_size]; omega) ?_
        rw [w64 (x := (m : Int) + 1) (by omega)]
        have e1 : (ba lines[i]).extract ((m : Int) + 1).toNat (ba lines[i]).size = ba (lines[i].drop (m + 1)) := by
          rw [ba_extract_end]
          rfl
        have e2 : (ba lines[i]).extract 0 (m : Int).toNat = ba (lines[i].take m) := by
          rw [ba_extract, List.drop_zero, Nat.sub_zero, Int.toNat_natCast]
        have hck := chk_range (lines[i].drop (m + 1)) c h0 h1
        rw [e1, e2, ba_size]
        refine Ev.ite_pos (by omega) (Ev.ite_pos (by omega) (Ev.bind (check_ev _ (by rw [List.length_drop]; omega) c h0 h1) (Ev.ite_pos (by omega) (Ev.ite_pos (by omega) (Ev.bind (dec_ev _ hck.1 (by omega)) ?_)))))
        rw [ba_toList, ba_toList]
        by_cases hq : lines[i].take m = Lib.itoa (chk c (lines[i].drop (m + 1)))
        · rw [if_pos hq]
          refine Ev.ite_pos hq (Ev.ite_pos (by omega) ?_)
          rw [w64 (x := (lines[i].length : Int) + 1) (by omega), w64 (x := x9 + ((lines[i].length : Int) + 1)) (by omega), w64 (x := (i : Int) + 1) (by omega)]
          have := ih (x7 ++ [ba (lines[i].drop (m + 1))]) (chk c (lines[i].drop (m + 1))) (x9 + ((lines[i].length : Int) + 1)) (i + 1) (by omega) (by omega) hck.1 hck.2 (by omega) (by omega) (by simp; omega)
          have e3 : x9 + ((lines[i].length + 1 + (recov (lines.drop (i + 1)) (chk c (lines[i].drop (m + 1)))).2 : Nat) : Int) = x9 + ((lines[i].length : Int) + 1) + ((recov (lines.drop (i + 1)) (chk c (lines[i].drop (m + 1)))).2 : Int) := by omega
          simp only [List.map_cons]
          rw [e3]
          rw [List.append_assoc] at this
          exact this
        · rw [if_neg hq]
          refine Ev.ite_neg hq ?_
          simpa using Ev.now _
      · rw [if_neg hm]
        refine Ev.ite_pos (by rw [ba_size]; omega) ?_
        simpa using Ev.now _
    · refine Ev.step (fun k => by rw [spec_RecoverJournal.l0]) ?_
      refine Ev.ite_neg (by simp; omega) ?_
      rw [List.drop_eq_nil_of_le (by omega)]
      have : (x7 ++ (recov [] c).1.map ba, x9 + ((recov [] c).2 : Int), true) = (x7, x9, true) := by simp [recov]
      rw [this]
      exact Ev.now _
theorem idx_cases : ∀ R : List UInt8, (Lib.indexByte R 10 = -1 ∧ sp 10 R = [R]) ∨ ∃ e : Nat, Lib.indexByte R 10 = (e : Int) ∧ e < R.length ∧ sp 10 R = R.take e :: sp 10 (R.drop (e + 1))
  | [] => .inl ⟨rfl, rfl⟩
  | b :: l => by
    by_cases hb : b = 10
    · subst hb
      exact .inr ⟨0, by simp [Lib.indexByte], by simp, by simp [sp]⟩
    · have hb' : (b == 10) = false := by simpa using hb
      rcases idx_cases l with ⟨h1, h2⟩ | ⟨e, h1, h2, h3⟩
      · exact .inl ⟨by simp [Lib.indexByte, hb', h1], by rw [sp, if_neg hb, h2]⟩
      · refine .inr ⟨e + 1, ?_, by simp; omega, ?_⟩
        · rw [Lib.indexByte, hb', h1]
          have : ((e : Int) == -1) = false := by
            rw [beq_eq_false_iff_ne]
            omega
          simp [this]
        · rw [sp, if_neg hb, h3]
          simp
theorem index_one : ∀ s : List UInt8, Lib.index s [32] = if s.findIdx (· == 32) < s.length then ((s.findIdx (· == 32) : Nat) : Int) else -1
  | [] => by simp [Lib.index]
  | b :: l => by
    have ih := index_one l
    by_cases hb : b = 32
    · subst hb
      simp [Lib.index, List.findIdx_cons]
    · have hb' : (b == 32) = false := by simpa using hb
      have hp : List.isPrefixOf [32] (b :: l) = false := by
        simp [List.isPrefixOf]
        exact fun h => hb h.symm
      rw [List.findIdx_cons, hb']
      simp only [cond_false, List.length_cons]
      by_cases hlt : l.findIdx (· == 32) < l.length
      · rw [if_pos hlt] at ih
        rw [if_pos (by omega), Lib.index, hp, ih]
        have : (((l.findIdx (· == 32) : Nat) : Int) == -1) = false := by
          rw [beq_eq_false_iff_ne]
          omega
        rw [this]
        simp
      · rw [if_neg hlt] at ih
        rw [if_neg (by omega), Lib.index, hp, ih]
        simp
theorem cut_one (s : List UInt8) : Lib.cut s [32] = if s.findIdx (· == 32) < s.length then (s.take (s.findIdx (· == 32)), s.drop (s.findIdx (· == 32) + 1), true) else (s, [], false) := by
  unfold Lib.cut
  rw [index_one]
  by_cases hlt : s.findIdx (· == 32) < s.length
  · rw [if_pos hlt, if_pos (by omega), if_pos hlt]
    simp
  · rw [if_neg hlt, if_neg (by omega), if_neg hlt]
theorem impl_loop (T : List UInt8) (hT : T.length ≤ 6000) :
    ∀ (d : Nat) (x5 : List ByteArray) (c : Int) (p : Nat), p ≤ T.length → T.length - p ≤ d → 0 ≤ c → c ≤ 65128 → x5.length + d ≤ 1000000000 →
    Ev (fun k => impl_RecoverJournal.l0 k (ba T) x5 (p : Int) c) (x5 ++ (recov (sp 10 (T.drop p)).dropLast c).1.map ba, (p : Int) + (recov (sp 10 (T.drop p)).dropLast c).2, true) := by
  intro d
  induction d using Nat.strongRecOn with
  | _ d ih =>
    intro x5 c p hp hd h0 h1 h4
    refine Ev.step (fun k => by rw [impl_RecoverJournal.l0]) ?_
    refine Ev.ite_pos (by omega) (Ev.ite_pos (by rw [ba_size]; omega) ?_)
    have e1 : (ba T).extract (p : Int).toNat (ba T).size = ba (T.drop p) := by rw [ba_extract_end, Int.toNat_natCast]
    rw [e1]
    have hlen : (T.drop p).length = T.length - p := List.length_drop
    rcases idx_cases (T.drop p) with ⟨i1, i2⟩ | ⟨e, i1, i2, i3⟩
    · refine Ev.cbind (a := -1) (by unfold strings_IndexByte.f; rw [ba_data]; exact congrArg some i1) (Ev.ite_pos (by decide) ?_)
      rw [i2]
      simpa [recov] using Ev.now _
    · refine Ev.cbind (a := (e : Int)) (by unfold strings_IndexByte.f; rw [ba_data]; exact congrArg some i1) (Ev.ite_neg (by omega) ?_)
      rw [w64 (x := (p : Int) + e) (by omega)]
      refine Ev.ite_pos (by omega) (Ev.ite_pos (by rw [ba_size]; omega) ?_)
      have e2 : (ba T).extract (p : Int).toNat ((p : Int) + e).toNat = ba ((T.drop p).take e) := by
        rw [ba_extract]
        congr 2
        omega
      rw [e2, i3, List.dropLast_cons_of_ne_nil (sp_ne _ _), recov, List.drop_drop]
      have hseg : ((T.drop p).take e).length = e := by rw [List.length_take]; omega
      generalize (T.drop p).take e = seg at hseg ⊢
      have hcut := cut_one seg
      have hfl : seg.findIdx (· == 32) ≤ seg.length := List.findIdx_le_length
      generalize seg.findIdx (· == 32) = m at hcut hfl ⊢
      by_cases hm : m < seg.length
      · rw [if_pos hm] at hcut
        have hck := chk_range (seg.drop (m + 1)) c h0 h1
        refine Ev.cbind (a := (ba (seg.take m), ba (seg.drop (m + 1)), true)) ?_ ?_
        · unfold strings_Cut.f
          rw [if_pos (by rw [ba_size]; omega), ba_data, hcut]
          rfl
        refine Ev.bind (checkOf_ev _ (by rw [List.length_drop]; omega) c h0 h1) (Ev.cbind (decimal_eq _ hck.1 (by omega)) ?_)
        have hit : (Lib.itoa (chk c (seg.drop (m + 1)))).length ≤ 13 := by
          unfold Lib.itoa
          rw [if_neg (by omega), Lib.decDigits_length]
          exact nDigits_le _ 13 (by omega) (by omega)
        have hl1 : (seg.drop (m + 1)).length = seg.length - (m + 1) := List.length_drop
        have hl2 : (seg.take m).length = m := by rw [List.length_take]; omega
        have hsp : ((⟨#[32]⟩ : ByteArray)) = ba [32] := rfl
        simp only [hsp, ba_append, ba_size, ba_toList]
        refine Ev.ite_pos (by omega) (Ev.ite_pos (by simp; omega) (Ev.ite_pos (by omega) (Ev.ite_pos (by simp; omega) ?_)))
        rw [if_pos hm]
        by_cases hq : seg.take m = Lib.itoa (chk c (seg.drop (m + 1)))
        · rw [if_pos hq]
          refine Ev.ite_pos (by rw [hq]) (Ev.ite_pos ?_ (Ev.ite_pos (by omega) ?_))
          · rw [w64 (by omega)]
            omega
          rw [w64 (x := (p : Int) + e + 1) (by omega)]
          have hR := ih (T.length - (p + (e + 1))) (by omega) (x5 ++ [ba (seg.drop (m + 1))]) (chk c (seg.drop (m + 1))) (p + (e + 1)) (by omega) (Nat.le_refl _) hck.1 hck.2 (by simp; omega)
          simp only [List.map_cons]
          rw [List.append_assoc] at hR
          have e3 : (p : Int) + ((seg.length + 1 + (recov (sp 10 (T.drop (p + (e + 1)))).dropLast (chk c (seg.drop (m + 1)))).2 : Nat) : Int) = ((p + (e + 1) : Nat) : Int) + ((recov (sp 10 (T.drop (p + (e + 1)))).dropLast (chk c (seg.drop (m + 1)))).2 : Int) := by omega
          rw [e3]
          have e4 : (p : Int) + (e : Int) + 1 = ((p + (e + 1) : Nat) : Int) := by omega
          rw [e4]
          exact hR
        · rw [if_neg hq]
          refine Ev.ite_neg (fun h => hq ?_) ?_
          · have := List.append_cancel_right (List.append_cancel_right h)
            exact this.symm
          · simpa using Ev.now _
      · rw [if_neg hm] at hcut ⊢
        refine Ev.cbind (a := (ba seg, ba [], false)) ?_ ?_
        · unfold strings_Cut.f
          rw [if_pos (by rw [ba_size]; omega), ba_data, hcut]
          rfl
        have hck := chk_range [] c h0 h1
        refine Ev.bind (checkOf_ev [] (by simp) c h0 h1) (Ev.cbind (decimal_eq _ hck.1 (by omega)) ?_)
        have hit : (Lib.itoa (chk c [])).length ≤ 13 := by
          unfold Lib.itoa
          rw [if_neg (by omega), Lib.decDigits_length]
          exact nDigits_le _ 13 (by omega) (by omega)
        have hsp : ((⟨#[32]⟩ : ByteArray)) = ba [32] := rfl
        simp only [hsp, ba_append, ba_size, ba_toList]
        refine Ev.ite_pos (by omega) (Ev.ite_pos (by simp; omega) (Ev.ite_pos (by omega) (Ev.ite_pos (by simp; omega) ?_)))
        by_cases hq : (Lib.itoa (chk c []) ++ [32]) ++ [] = (seg ++ [32]) ++ []
        · refine Ev.ite_pos hq (Ev.ite_neg ?_ ?_)
          · rw [w64 (by simp; omega)]
            simp
            omega
          · simpa using Ev.now _
        · refine Ev.ite_neg hq ?_
          simpa using Ev.now _
theorem lines_ev (T : List UInt8) (hT : T.length ≤ 6000) : ∃ z, Ev (fun k => spec_l11Lines.f k (ba T)) ((sp 10 T).dropLast.map ba, z) := by
  have hne := sp_ne 10 T
  have hl : 0 < (sp 10 T).length := List.length_pos_iff.2 hne
  refine ⟨rdOf ByteArray.empty ((sp 10 T).map ba) ((((sp 10 T).map ba).length - 1 : Nat) : Int), ?_⟩
  unfold spec_l11Lines.f
  refine Ev.bind (cut_ev 10 T (by omega)) ?_
  have : ((sp 10 T).map ba).take (((sp 10 T).map ba).length - 1) = (sp 10 T).dropLast.map ba := by
    rw [List.dropLast_eq_take, List.map_take, List.length_map]
  simp only [this]
  exact Ev.ite_pos (by simpa using hl) (Ev.now _)
theorem sp_bound (c : UInt8) : ∀ T : List UInt8, (sp c T).length ≤ T.length + 1 ∧ ∀ l ∈ sp c T, l.length ≤ T.length
  | [] => ⟨by simp [sp], by simp [sp]⟩
  | b :: l => by
    obtain ⟨h1, h2⟩ := sp_bound c l
    by_cases hb : b = c
    · rw [sp, if_pos hb]
      refine ⟨by simp; omega, fun x hx => ?_⟩
      rcases List.mem_cons.1 hx with hx | hx
      · subst hx; simp
      · have := h2 x hx; simp; omega
    · rw [sp, if_neg hb]
      cases hs : sp c l with
      | nil => exact absurd hs (sp_ne c l)
      | cons p r =>
        rw [hs] at h1 h2
        refine ⟨by simp at h1 ⊢; omega, fun x hx => ?_⟩
        rcases List.mem_cons.1 hx with hx | hx
        · subst hx
          have := h2 p (List.mem_cons_self ..)
          simp; omega
        · have := h2 x (List.mem_cons_of_mem _ hx); simp; omega
theorem recov_len : ∀ (ls : List (List UInt8)) (c : Int), (recov ls c).1.length ≤ ls.length
  | [], _ => by simp [recov]
  | l :: ls, c => by
    rw [recov]
    split
    · split
      · have := recov_len ls (chk c (l.drop (l.findIdx (· == 32) + 1)))
        simp; omega
      · simp
    · simp
theorem spec_ev (T : List UInt8) (hT : T.length ≤ 6000) : Ev (fun k => spec_RecoverJournal.f k (ba T)) ((recov (sp 10 T).dropLast 0).1.map ba, ((recov (sp 10 T).dropLast 0).2 : Int), true) := by
  obtain ⟨z, hz⟩ := lines_ev T hT
  unfold spec_RecoverJournal.f
  refine Ev.ite_neg (by rw [ba_size]; omega) (Ev.bind hz ?_)
  obtain ⟨b1, b2⟩ := sp_bound 10 T
  have hlen : (sp 10 T).dropLast.length ≤ 6000 := by rw [List.length_dropLast]; omega
  have := spec_loop (sp 10 T).dropLast (fun l hl => by have := b2 l ((List.dropLast_sublist _).subset hl); omega) (by omega) (sp 10 T).dropLast.length [] 0 0 0 (Nat.zero_le _) (Nat.le_refl _) (by omega) (by omega) (by omega) (by omega) (by simp; omega)
  rw [List.drop_zero, List.nil_append, Int.zero_add] at this
  exact this
theorem impl_ev (T : List UInt8) (hT : T.length ≤ 6000) : Ev (fun k => impl_RecoverJournal.f k (ba T)) ((recov (sp 10 T).dropLast 0).1.map ba, ((recov (sp 10 T).dropLast 0).2 : Int), true) := by
  unfold impl_RecoverJournal.f
  refine Ev.ite_neg (by rw [ba_size]; omega) ?_
  have := impl_loop T hT T.length [] 0 0 (Nat.zero_le _) (by omega) (by omega) (by omega) (by simp; omega)
  rw [List.drop_zero, List.nil_append] at this
  simpa using this
/-- The law's end, whatever both come to, as long as that is one value. -/
theorem law_ends (s : ByteArray) (hs : s.size ≤ 1000000) (l : List ByteArray) (n : Int) (b : Bool) (hl : l.length ≤ 100000000) (h1 : Ev (fun k => spec_RecoverJournal.f k s) (l, n, b)) (h2 : Ev (fun k => impl_RecoverJournal.f k s) (l, n, b)) :
    Ev (fun k => laws_FnExactRecoverJournal.f k s) true := by
  obtain ⟨r, hm, hh⟩ := mark_held l hl
  unfold laws_FnExactRecoverJournal.f
  refine Ev.ite_neg (by omega) (Ev.bind h1 (Ev.bind h2 (Ev.bind (eqS l (by omega)) (Ev.ite_pos rfl (Ev.ite_pos rfl ?_)))))
  refine Ev.step (fun k => by rw [laws_FnExactRecoverJournal.j0]) ?_
  refine Ev.ite_neg (by simp) (Ev.bind hm (Ev.bind hh (Ev.ite_neg (by omega) (Ev.ite_pos rfl (Ev.bind h2 (Ev.bind (eqS l (by omega)) (Ev.ite_pos rfl (Ev.ite_pos rfl ?_))))))))
  refine Ev.step (fun k => by rw [laws_FnExactRecoverJournal.j1]) ?_
  exact Ev.ite_neg (by simp) (Ev.bind hh (Ev.ite_neg (by omega) (Ev.ite_pos rfl (Ev.now _))))
theorem recoverJournal_pure : laws_FnExactRecoverJournal.Pure := by
  intro s _
  apply Ev.rounds
  by_cases hbig : s.size ≤ 1000000
  · by_cases h6 : s.size ≤ 6000
    · have hs := ba_of s
      have hl : s.data.toList.length ≤ 6000 := by simpa using h6
      generalize s.data.toList = T at hs hl
      subst hs
      have hrl := recov_len (sp 10 T).dropLast 0
      have hb := (sp_bound 10 T).1
      rw [List.length_dropLast] at hrl
      exact law_ends _ hbig _ _ _ (by rw [List.length_map]; omega) (spec_ev T hl) (impl_ev T hl)
    · refine law_ends s hbig [] 0 false (by simp) ?_ ?_
      · unfold spec_RecoverJournal.f
        exact Ev.ite_pos (by omega) (Ev.now _)
      · unfold impl_RecoverJournal.f
        exact Ev.ite_pos (by omega) (Ev.now _)
  · unfold laws_FnExactRecoverJournal.f
    exact Ev.ite_pos (by omega) (Ev.now _)
end Go.Proofs.YtbaephhcniginaaDoor.J
