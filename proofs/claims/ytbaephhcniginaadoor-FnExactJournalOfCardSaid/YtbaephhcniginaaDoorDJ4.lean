/- The plain law of JournalOf: what the reference's function comes to is what the program's comes to, for every list of lines of at most a million bytes together; conditions stand in each theorem. -/
import Derived.Test.YtbaephhcniginaaDoorDJ1
import Derived.Test.YtbaephhcniginaaDoorDJ3
import Derived.Test.YtbaephhcniginaaDoorPJx13
import Derived.Lib.IndexAny
namespace Go.Proofs.YtbaephhcniginaaDoor.J
open Go.RowKit Go.Proofs.YtbaephhcniginaaDoorW.PrintWords Go.Proofs.YtbaephhcniginaaDoorW.PrintLast Go.Proofs.YtbaephhcniginaaDoorW.PrintMore
theorem contains_mem (s : List UInt8) (c : UInt8) : Lib.contains s [c] = true ↔ c ∈ s := by
  unfold Lib.contains
  rw [Lib.index_one, ← Lib.contains_iff_indexByte]
  simp
theorem nDigits_pos (u : Nat) : 1 ≤ Lib.nDigits u := by rw [Lib.nDigits]; split <;> omega
theorem itoa_len (c : Int) (h0 : 0 ≤ c) (h1 : c ≤ 65128) : 1 ≤ (Lib.itoa c).length ∧ (Lib.itoa c).length ≤ 13 := by
  unfold Lib.itoa
  rw [if_neg (by omega), Lib.decDigits_length]
  exact ⟨nDigits_pos _, nDigits_le _ 13 (by omega) (by omega)⟩
/-- the journal of lines after a check number -/
def jn : List ByteArray → Int → List UInt8
  | [], _ => []
  | l :: ls, c => (((Lib.itoa (chk c l.data.toList) ++ [32]) ++ l.data.toList) ++ [10]) ++ jn ls (chk c l.data.toList)
/-- what a list of lines takes at least -/
def tot (ls : List ByteArray) : Nat := (ls.map fun l => l.size + 3).sum
theorem tot_cons (l : ByteArray) (ls : List ByteArray) : tot (l :: ls) = l.size + 3 + tot ls := by simp [tot]
theorem tot_append (a b : List ByteArray) : tot (a ++ b) = tot a + tot b := by simp [tot]
theorem jn_len : ∀ (ls : List ByteArray) (c : Int), 0 ≤ c → c ≤ 65128 → tot ls ≤ (jn ls c).length ∧ (jn ls c).length ≤ 13 * tot ls
  | [], c, h0, h1 => by simp [jn, tot]
  | l :: ls, c, h0, h1 => by
    obtain ⟨h2, h3⟩ := chk_range l.data.toList c h0 h1
    obtain ⟨h4, h5⟩ := jn_len ls (chk c l.data.toList) h2 h3
    obtain ⟨h6, h7⟩ := itoa_len (chk c l.data.toList) h2 h3
    have e : l.data.toList.length = l.size := Array.length_toList
    rw [tot_cons]
    simp only [jn, List.length_append, List.length_cons, List.length_nil]
    omega
def okLines (ls : List ByteArray) : Prop := ∀ l ∈ ls, (10 : UInt8) ∉ l.data.toList
instance (ls : List ByteArray) : Decidable (okLines ls) := by unfold okLines; infer_instance
theorem joL_eq : ∀ (ls : List ByteArray) (c : Int) (acc : List UInt8), 0 ≤ c → c ≤ 65128 → joL ls c acc = if okLines ls ∧ (acc ++ jn ls c).length ≤ 6000 then (acc ++ jn ls c, true) else ([], false)
  | [], c, acc, h0, h1 => by
    by_cases h : 6000 < acc.length
    · rw [joL, if_pos h, if_neg (by simp [jn]; omega)]
    · rw [joL, if_neg h, if_pos ⟨by simp [okLines], by simp [jn]; omega⟩]
      simp [jn]
  | l :: ls, c, acc, h0, h1 => by
    obtain ⟨h2, h3⟩ := chk_range l.data.toList c h0 h1
    have e : l.data.toList.length = l.size := Array.length_toList
    by_cases t1 : 6000 < l.size
    · rw [joL, if_pos t1, if_neg]
      rintro ⟨_, h⟩
      simp only [jn, List.length_append] at h
      omega
    · by_cases t2 : Lib.contains l.data.toList [10] = true
      · rw [joL, if_neg t1, if_pos t2, if_neg]
        rintro ⟨h, _⟩
        exact h l (List.mem_cons_self ..) ((contains_mem _ _).1 t2)
      · by_cases t3 : 6000 < acc.length
        · rw [joL, if_neg t1, if_neg t2, if_pos t3, if_neg]
          rintro ⟨_, h⟩
          simp only [List.length_append] at h
          omega
        · rw [joL, if_neg t1, if_neg t2, if_neg t3, joL_eq ls _ _ h2 h3]
          have hno : (10 : UInt8) ∉ l.data.toList := fun h => t2 ((contains_mem _ _).2 h)
          have e1 : okLines (l :: ls) ↔ okLines ls := by
            simp only [okLines, List.mem_cons]
            exact ⟨fun h x hx => h x (.inr hx), fun h x hx => by rcases hx with rfl | hx; exact hno; exact h x hx⟩
          have e2 : acc ++ jn (l :: ls) c = acc ++ (((Lib.itoa (chk c l.data.toList) ++ [32]) ++ l.data.toList) ++ [10]) ++ jn ls (chk c l.data.toList) := by
            simp only [jn, List.append_assoc]
          rw [e2]
          simp only [e1]
/-- the reference's journal -/
theorem jn_ev (l : List ByteArray) (hl : l.length ≤ 1000000) (hs : ∀ x ∈ l, x.size ≤ 1000000) : ∀ (m i : Nat) (acc : List UInt8) (c : Int), i + m = l.length → 0 ≤ c → c ≤ 65128 → acc.length ≤ i * 2000000 →
    Ev (fun k => spec_l11Journal.l0 k l (ba acc) c (i : Int)) (ba (acc ++ jn (l.drop i) c))
  | 0, i, acc, c, h, h0, h1, ha => by
    rw [List.drop_of_length_le (by omega)]
    refine Ev.step (fun k => by rw [spec_l11Journal.l0]) ?_
    refine Ev.ite_neg (by omega) ?_
    simpa [jn] using Ev.now _
  | m + 1, i, acc, c, h, h0, h1, ha => by
    have hi : i < l.length := by omega
    have hsi := hs l[i] (List.getElem_mem hi)
    rw [List.drop_eq_getElem_cons hi]
    have e : rdOf ByteArray.empty l (i : Int) = l[i] := by rw [rdOf_at _ _ i hi]
    have e0 : l[i].data.toList.length = l[i].size := Array.length_toList
    generalize l[i] = x at e e0 hsi
    obtain ⟨h2, h3⟩ := chk_range x.data.toList c h0 h1
    obtain ⟨h4, h5⟩ := itoa_len (chk c x.data.toList) h2 h3
    refine Ev.step (fun k => by rw [spec_l11Journal.l0]) ?_
    rw [e]
    refine Ev.ite_pos (by omega) (Ev.ite_pos (by omega) ?_)
    refine Ev.bind (a := chk c x.data.toList) (by have := check_ev x.data.toList (by omega) c h0 h1; rwa [← ba_of] at this) ?_
    refine Ev.bind (dec_ev (chk c x.data.toList) h2 (by omega)) ?_
    have e1 : ba (Lib.itoa (chk c x.data.toList)) ++ (⟨#[32]⟩ : ByteArray) ++ x ++ (⟨#[10]⟩ : ByteArray) = ba (((Lib.itoa (chk c x.data.toList) ++ [32]) ++ x.data.toList) ++ [10]) := by
      apply ba_ext
      simp [ba]
    have e2 : ba (Lib.itoa (chk c x.data.toList)) ++ (⟨#[32]⟩ : ByteArray) = ba (Lib.itoa (chk c x.data.toList) ++ [32]) := by
      apply ba_ext
      simp [ba]
    have e3 : ba (Lib.itoa (chk c x.data.toList)) ++ (⟨#[32]⟩ : ByteArray) ++ x = ba ((Lib.itoa (chk c x.data.toList) ++ [32]) ++ x.data.toList) := by
      apply ba_ext
      simp [ba]
    rw [e1, e3, e2, ba_append]
    refine Ev.ite_pos (by rw [ba_size]; omega) (Ev.ite_pos (by rw [ba_size]; simp only [List.length_append, List.length_cons, List.length_nil]; omega) (Ev.ite_pos (by rw [ba_size]; simp only [List.length_append, List.length_cons, List.length_nil]; omega) (Ev.ite_pos (by rw [ba_size, ba_size]; simp only [List.length_append, List.length_cons, List.length_nil]; omega) ?_)))
    rw [w64 (x := (i : Int) + 1) (by omega)]
    have := jn_ev l hl hs m (i + 1) (acc ++ (((Lib.itoa (chk c x.data.toList) ++ [32]) ++ x.data.toList) ++ [10])) (chk c x.data.toList) (by omega) h2 h3 (by simp only [List.length_append, List.length_cons, List.length_nil]; omega)
    simp only [jn]
    rw [List.append_assoc acc] at this
    exact_mod_cast this
/-- a line's bytes are searched for a newline -/
theorem nl_ev (l : List ByteArray) (t : Int) (i : Nat) (hi : i < l.length) (hl : l.length ≤ 1000000) (hs : l[i].size ≤ 1000000) (R : ByteArray × Bool) (hR : (10 : UInt8) ∈ l[i].data.toList → R = (⟨#[]⟩, false)) (hgo : (10 : UInt8) ∉ l[i].data.toList → Ev (fun k => spec_JournalOf.l0 k l t ((i + 1 : Nat) : Int)) R) :
    ∀ (m j : Nat), j + m = l[i].size → (∀ q : Nat, q < j → ∀ hq : q < l[i].data.toList.length, l[i].data.toList[q] ≠ 10) → Ev (fun k => spec_JournalOf.l1 k l t (i : Int) (j : Int)) R
  | 0, j, h, hb => by
    have e : rdOf ByteArray.empty l (i : Int) = l[i] := by rw [rdOf_at _ _ i hi]
    refine Ev.step (fun k => by rw [spec_JournalOf.l1]) ?_
    rw [e]
    refine Ev.ite_pos (by omega) (Ev.ite_pos (by omega) (Ev.ite_neg (by omega) ?_))
    rw [w64 (x := (i : Int) + 1) (by omega)]
    refine hgo ?_
    intro hm
    obtain ⟨q, hq, hq2⟩ := List.mem_iff_getElem.1 hm
    have e0 : l[i].data.toList.length = l[i].size := Array.length_toList
    exact hb q (by omega) hq hq2
  | m + 1, j, h, hb => by
    have e : rdOf ByteArray.empty l (i : Int) = l[i] := by rw [rdOf_at _ _ i hi]
    have e0 : l[i].data.toList.length = l[i].size := Array.length_toList
    have ih := nl_ev l t i hi hl hs R hR hgo m (j + 1) (by omega)
    refine Ev.step (fun k => by rw [spec_JournalOf.l1]) ?_
    rw [e]
    have hj : j < l[i].data.toList.length := by omega
    have eb : bt l[i] (j : Int) = ((l[i].data.toList[j]).toNat : Int) := by
      have := bt_ba l[i].data.toList j hj
      rwa [← ba_of] at this
    rw [eb]
    refine Ev.ite_pos (by omega) (Ev.ite_pos (by omega) (Ev.ite_pos (by omega) (Ev.ite_pos (by omega) ?_)))
    by_cases c : l[i].data.toList[j] = 10
    · refine Ev.ite_pos (by rw [c]; rfl) ?_
      rw [hR (c ▸ List.getElem_mem hj)]
      exact Ev.now _
    · refine Ev.ite_neg (fun h => c ?_) ?_
      · apply UInt8.toNat_inj.1
        show _ = 10
        omega
      · rw [w64 (x := (j : Int) + 1) (by omega)]
        refine ih fun q hq hq2 => ?_
        by_cases d : q = j
        · subst d; exact c
        · exact hb q (by omega) hq2
theorem jo_l0 (l : List ByteArray) (hl : l.length ≤ 1000000) (hs : ∀ x ∈ l, x.size ≤ 1000000) : ∀ (m i : Nat), i + m = l.length → tot (l.take i) ≤ 6000 → okLines (l.take i) →
    Ev (fun k => spec_JournalOf.l0 k l (tot (l.take i) : Int) (i : Int)) (ba (joL l 0 []).1, (joL l 0 []).2)
  | 0, i, h, ht, hok => by
    have e : l.take i = l := List.take_of_length_le (by omega)
    rw [e] at ht hok ⊢
    refine Ev.step (fun k => by rw [spec_JournalOf.l0]) ?_
    refine Ev.ite_neg (by omega) ?_
    have h1 := jn_ev l hl hs l.length 0 [] 0 (by omega) (by omega) (by omega) (by simp)
    rw [List.drop_zero, List.nil_append] at h1
    have hn := jn_len l 0 (by omega) (by omega)
    refine Ev.bind (a := ba (jn l 0)) ?_ ?_
    · unfold spec_l11Journal.f
      exact h1
    · rw [joL_eq l 0 [] (by omega) (by omega), List.nil_append, ba_size]
      by_cases c : (jn l 0).length ≤ 6000
      · rw [if_pos (show okLines l ∧ (jn l 0).length ≤ 6000 from ⟨hok, c⟩)]
        exact Ev.ite_neg (by omega) (Ev.now _)
      · rw [if_neg (show ¬ (okLines l ∧ (jn l 0).length ≤ 6000) from fun h => c h.2)]
        exact Ev.ite_pos (by omega) (Ev.now _)
  | m + 1, i, h, ht, hok => by
    have hi : i < l.length := by omega
    have hsi := hs l[i] (List.getElem_mem hi)
    have e : rdOf ByteArray.empty l (i : Int) = l[i] := by rw [rdOf_at _ _ i hi]
    have et : l.take (i + 1) = l.take i ++ [l[i]] := List.take_succ_eq_append_getElem hi
    have e2 : tot (l.take (i + 1)) = tot (l.take i) + (l[i].size + 3) := by rw [et, tot_append]; simp [tot]
    have e3 : tot l = tot (l.take (i + 1)) + tot (l.drop (i + 1)) := by rw [← tot_append, List.take_append_drop]
    have hn := jn_len l 0 (by omega) (by omega)
    refine Ev.step (fun k => by rw [spec_JournalOf.l0]) ?_
    rw [e, w64 (x := (l[i].size : Int) + 3) (by omega), w64 (x := (tot (l.take i) : Int) + ((l[i].size : Int) + 3)) (by omega)]
    have e4 : (tot (l.take i) : Int) + ((l[i].size : Int) + 3) = (tot (l.take (i + 1)) : Int) := by omega
    rw [e4]
    refine Ev.ite_pos (by omega) (Ev.ite_pos (by omega) ?_)
    by_cases c : 6000 < tot (l.take (i + 1))
    · refine Ev.ite_pos (by omega) ?_
      rw [joL_eq l 0 [] (by omega) (by omega), List.nil_append, if_neg (fun h => by omega)]
      exact Ev.now _
    · refine Ev.ite_neg (by omega) ?_
      refine nl_ev l _ i hi hl hsi _ ?_ ?_ l[i].size 0 (by omega) (fun q hq => by omega)
      · intro hm
        rw [joL_eq l 0 [] (by omega) (by omega), List.nil_append, if_neg (fun h => h.1 l[i] (List.getElem_mem hi) hm)]
        rfl
      · intro hm
        refine jo_l0 l hl hs m (i + 1) (by omega) (by omega) ?_
        rw [et]
        intro x hx
        rcases List.mem_append.1 hx with hx | hx
        · exact hok x hx
        · rw [List.mem_singleton] at hx
          rw [hx]; exact hm
theorem jo_ev (l : List ByteArray) (hl : l.length ≤ 1000000) (hs : ∀ x ∈ l, x.size ≤ 1000000) : Ev (fun k => spec_JournalOf.f k l) (ba (joL l 0 []).1, (joL l 0 []).2) := by
  have := jo_l0 l hl hs l.length 0 (by omega) (by simp [tot]) (by simp [okLines])
  unfold spec_JournalOf.f
  simpa [tot] using this
end Go.Proofs.YtbaephhcniginaaDoor.J
