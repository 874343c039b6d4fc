/- NewDesk: what the marks do to a desk that was just made; conditions stand in each theorem. -/
import Derived.Test.YtbaephhcniginaaPFnExactNewDeskx
import Derived.Deep.LoopGhost
namespace Go.Proofs.Ytbaephhcniginaa.PFnExactNewDesk
open Go.RowKit Go.Proofs.YtbaephhcniginaaW.PrintWords Go.Proofs.YtbaephhcniginaaW.PrintLast Go.Proofs.YtbaephhcniginaaW.PrintMore
def one : ByteArray := ⟨#[49]⟩
def m101 : ByteArray := ⟨#[109, 49, 48, 49]⟩
theorem keepB {W W' : World} {b : Nat} {o : Obj} (hb : Below W.heap.size W W') (h : W.heap[b]? = some o) : W'.heap[b]? = some o := by
  have hlt : b < W.heap.size := by
    rcases Nat.lt_or_ge b W.heap.size with h' | h'
    · exact h'
    · rw [Array.getElem?_eq_none h'] at h; cases h
  rw [hb.block b hlt]; exact h
theorem cellB {W : World} {b i : Nat} {cs : Array Value} {t : TypeId} {v : Value} (h : W.heap[b]? = some (.cells cs t (0, 0))) (hv : cs[i]? = some v) : W.cell? ⟨b, i, none⟩ = some v := by
  simp [World.cell?, h, hv]
/-- A row of one row of one text, block by block. -/
structure Desk1 (base g r : Nat) (txt : ByteArray) (W : World) : Prop where
  row : W.heap[g]? = some (.cells #[.slice (some ⟨r, 0, none⟩) 1 1] 32 (0, 0))
  own : Kd.R Kd.string 9 W base (fun k => k = r) (.slice (some ⟨r, 0, none⟩) 1 1) [txt]
  gr : g ≠ r
theorem Desk1.reads {base g r : Nat} {txt : ByteArray} {W : World} (h : Desk1 base g r txt W) : Kd.C (Kd.slice 9 Kd.string) W (some ⟨g, 0, none⟩) 1 [[txt]] := by
  refine ⟨rfl, by omega, fun _ => ⟨_, rfl, fun j p hp => ?_⟩⟩
  have hj : j = 0 := by
    rcases j with _ | j
    · rfl
    · simp at hp
  subst hj
  simp only [List.getElem?_cons_zero, Option.some.injEq] at hp
  subst hp
  refine ⟨[.slice (some ⟨r, 0, none⟩) 1 1], rfl, ⟨_, 1, rfl, by simp, (Kd.R_reads' h.own).2.2⟩, fun i u hu => ?_⟩
  have hi : i = 0 := by
    rcases i with _ | i
    · rfl
    · simp at hu
  subst hi
  simp only [List.getElem?_cons_zero, Option.some.injEq] at hu
  subst hu
  exact cellB h.row rfl
theorem Desk1.below {base g r : Nat} {txt : ByteArray} {W W' : World} (h : Desk1 base g r txt W) (hb : Below W.heap.size W W') : Desk1 base g r txt W' := ⟨keepB hb h.row, Kd.R_below h.own hb, h.gr⟩
set_option maxHeartbeats 1000000 in
set_option maxRecDepth 100000 in
theorem new_calls (w : World) : Calls Try.prog 5 #[] w fun e w' => ∃ g r, e = .returned (.agg #[.slice (some ⟨g, 0, none⟩) 1 1, .slice none 0 0]) ∧ Desk1 w.heap.size g r one w' ∧ w.heap.size ≤ g ∧ w.heap.size ≤ r ∧ Below w.heap.size w w' := by
  go_enter Try.func5, Try.ntmps5
  go_wp2
  refine bodyPost_ret (v := .agg #[.slice (some ⟨w.heap.size + 1 + 1, 0, none⟩) 1 1, .slice none 0 0]) (by simp [results, Try.results5, go_sem]) rfl ?_
  refine ⟨_, w.heap.size + 1, rfl, ⟨?_, ?_, ?_⟩, by omega, by omega, (((Below.refl _ _).alloc (Nat.le_refl _) _).alloc (by simp) _).alloc (by simp; omega) _⟩
  · have h := heap_alloc_new ((w.alloc (.cells #[Value.slice (some ⟨w.heap.size + 1 + 1, 0, none⟩) 1 1, Value.slice none 0 0] 27)).alloc (.cells #[Value.string { data := #[49] }] 9)) (.cells #[Value.slice (some ⟨w.heap.size + 1, 0, none⟩) 1 1] 32)
    rwa [show ((w.alloc (.cells #[Value.slice (some ⟨w.heap.size + 1 + 1, 0, none⟩) 1 1, Value.slice none 0 0] 27)).alloc (.cells #[Value.string { data := #[49] }] 9)).heap.size = w.heap.size + 1 + 1 by simp] at h
  · refine Kd.R_of_own (enc := Value.string) ?_ (fun k hk => by simpa [Value.ownBlock] using hk.symm)
    have h1 := own_lit_of (enc := Value.string) (w.alloc (.cells #[Value.slice (some ⟨w.heap.size + 1 + 1, 0, none⟩) 1 1, Value.slice none 0 0] 27)) w.heap.size 9 [one] (by simp) (by simp)
    have h2 := h1.alloc (.cells #[Value.slice (some ⟨w.heap.size + 1, 0, none⟩) 1 1] 32)
    simpa [encs, one] using h2
  · omega
theorem markText_101 : ∃ k, laws_markText.f k 101 = some m101 := ⟨10, by decide +kernel⟩
theorem markS_one : ∃ k, laws_markStringS.f k [one] 101 = some (102, [m101]) := ⟨20, by decide +kernel⟩
set_option maxHeartbeats 2000000 in
set_option maxRecDepth 100000 in
/-- The mark of a row of one row of one text. -/
theorem markSS_calls (base g r : Nat) (W : World) (h : Desk1 base g r one W) (w0 : World) (h0 : w0.heap.size = base) (hB : Below w0.heap.size w0 W) :
    Calls Try.prog 17 #[.slice (some ⟨g, 0, none⟩) 1 1, .int .i64 101] W fun e W' => e = .returned (.int .i64 102) ∧ Desk1 base g r m101 W' ∧ Below base w0 W' ∧ ∀ k, k < W.heap.size → k ≠ r → W'.heap[k]? = W.heap[k]? := by
  subst h0
  obtain ⟨km, hkm⟩ := markS_one
  have HKM := Aside0.mk hkm
  have HD := Aside0.mk h
  have HBB := Aside0.mk hB
  have hcell : W.cell? ⟨g, 0, none⟩ = some (.slice (some ⟨r, 0, none⟩) 1 1) := cellB h.row rfl
  clear hkm h hB
  go_enter Try.func17, Try.ntmps17
  go_wp2
  go_loopg [1, 5] 1 (fun q vk vi w' => (q = 1 ∧ vk = .int .i64 101 ∧ vi = .int .i64 0 ∧ w' = W) ∨ (q = 0 ∧ vk = .int .i64 102 ∧ vi = .int .i64 1 ∧ Desk1 w0.heap.size g r m101 w' ∧ Below w0.heap.size w0 w' ∧ ∀ k, k < W.heap.size → k ≠ r → w'.heap[k]? = W.heap[k]?))
  case atStart => exact .inl ⟨rfl, rfl, rfl, rfl⟩
  case round =>
    rcases hrel with ⟨rfl, rfl, rfl, rfl⟩ | ⟨rfl, rfl, rfl, hd, hb, hk⟩
    · go_wp2_with (go_at_call 20; (refine (laws_markStringS.calls km (fun k_ => k_ = r) (.slice (some ⟨r, 0, none⟩) 1 1) [one] 101 102 [m101] w0 _ HBB.out HD.out.own HKM.out).mono ?_); rintro e w' ⟨rfl, hy, hb, hkp⟩)
      go_roundg 0
      case measure => omega
      case rel =>
        have hlt : g < wr.heap.size := by
          have := HD.out.row
          rcases Nat.lt_or_ge g wr.heap.size with h' | h'
          · exact h'
          · rw [Array.getElem?_eq_none h'] at this; cases this
        exact .inr ⟨rfl, rfl, rfl, ⟨(hkp.2 g hlt HD.out.gr).trans HD.out.row, Kd.R_reok rfl hy (fun k hk => by simpa [Value.ownBlock] using hk.symm), HD.out.gr⟩, hb, fun k h1 h2 => hkp.2 k h1 h2⟩
    · go_wp2
      go_ret
      exact ⟨rfl, hd, hb, hk⟩
set_option maxHeartbeats 2000000 in
set_option maxRecDepth 100000 in
theorem markChain_calls (base g r : Nat) (W : World) (h : Desk1 base g r one W) (w0 : World) (h0 : w0.heap.size = base) (hB : Below w0.heap.size w0 W) :
    Calls Try.prog 11 #[.agg #[.slice (some ⟨g, 0, none⟩) 1 1], .int .i64 101] W fun e W' => e = .returned (.int .i64 102) ∧ Desk1 base g r m101 W' ∧ Below base w0 W' ∧ ∀ k, k < W.heap.size → k ≠ r → W'.heap[k]? = W.heap[k]? := by
  subst h0
  have HD := Aside0.mk h
  have HBB := Aside0.mk hB
  clear h hB
  go_enter Try.func11, Try.ntmps11
  go_wp2_with (go_at_call 17; (refine (markSS_calls w0.heap.size g r _ (HD.out.below (below_alloc (Below.refl _ _) _)) w0 rfl (below_alloc HBB.out _)).mono ?_); rintro e w' ⟨rfl, hd, hb, hk⟩)
  go_ret
  refine ⟨rfl, hd, hb, fun k h1 h2 => ?_⟩
  rw [hk k (by simp; omega) h2]
  exact (below_alloc (Below.refl W.heap.size W) _).block k h1
theorem keep_box {W w1 : World} {r : Nat} {cs : Array Value} {t : TypeId} (hk : ∀ k, k < (W.alloc (.cells cs t)).heap.size → k ≠ r → w1.heap[k]? = (W.alloc (.cells cs t)).heap[k]?) (hne : W.heap.size ≠ r) : w1.heap[W.heap.size]? = some (.cells cs t (0, 0)) := by
  rw [hk _ (by simp) hne]
  exact heap_alloc_new W _
theorem markC_nil : ∃ k, laws_markCustomerS.f k [] 102 = some (102, []) := ⟨3, rfl⟩
set_option maxHeartbeats 2000000 in
set_option maxRecDepth 100000 in
theorem markDesk_calls (base g r : Nat) (W : World) (h : Desk1 base g r one W) (w0 : World) (h0 : w0.heap.size = base) (hB : Below w0.heap.size w0 W) :
    Calls Try.prog 7 #[.agg #[.slice (some ⟨g, 0, none⟩) 1 1, .slice none 0 0], .int .i64 101] W fun e W' => e = .returned (.int .i64 102) ∧ Desk1 base g r m101 W' ∧ Below base w0 W' ∧ ∀ k, k < W.heap.size → k ≠ r → W'.heap[k]? = W.heap[k]? := by
  subst h0
  obtain ⟨km, hkm⟩ := markC_nil
  have HKM := Aside0.mk hkm
  have HD := Aside0.mk h
  have HBB := Aside0.mk hB
  clear h hB hkm
  go_enter Try.func7, Try.ntmps7
  have hne : W.heap.size ≠ r := by
    obtain ⟨g', cap, he, h1, h2, _⟩ := Kd.R_form HD.out.own (by simp)
    injection he with he
    injection he with he
    injection he with he
    omega
  have HNE := Aside0.mk hne
  clear hne
  go_wp2_with (first
    | (go_at_call 11; (refine (markChain_calls w0.heap.size g r _ (HD.out.below (below_alloc (Below.refl _ _) _)) w0 rfl (below_alloc HBB.out _)).mono ?_); rintro e w1 ⟨rfl, hd, hb, hk⟩; have hc1 : w1.cell? ⟨W.heap.size, 1, none⟩ = some (.slice none 0 0) := cellB (keep_box hk HNE.out) rfl; have HB1 := Aside0.mk hb; have HD1 := Aside0.mk hd; have HK1 := Aside0.mk hk; clear hb hd hk)
    | (go_at_call 12; (refine (laws_markCustomerS.calls km (fun _ => False) (.slice none 0 0) [] 102 102 [] w0 _ HB1.out (Kd.R_nil _ _ _ _ _) HKM.out).mono ?_); rintro e w2 ⟨rfl, _, hb, hkp⟩))
  go_ret
  have hsz : W.heap.size < w1.heap.size := by
    rcases Nat.lt_or_ge W.heap.size w1.heap.size with h' | h'
    · exact h'
    · have := World.block_lt_of_cell? w1 _ hc1
      simp at this
      omega
  have hall : ∀ k, k < w1.heap.size → w2.heap[k]? = w1.heap[k]? := fun k h => hkp.2 k h (fun x => x)
  have hlt : ∀ b o, w1.heap[b]? = some o → b < w1.heap.size := fun b o h => by
    rcases Nat.lt_or_ge b w1.heap.size with h' | h'
    · exact h'
    · rw [Array.getElem?_eq_none h'] at h; cases h
  refine ⟨rfl, ⟨?_, Kd.R_step HD1.out.own (fun k _ hk => hall k hk), HD1.out.gr⟩, hb, fun k h1 h2 => ?_⟩
  · rw [hall g (hlt _ _ HD1.out.row)]
    exact HD1.out.row
  · rw [hall k (by omega), HK1.out k (by simp; omega) h2]
    exact (below_alloc (Below.refl W.heap.size W) _).block k h1
set_option maxHeartbeats 1000000 in
set_option maxRecDepth 100000 in
theorem spec_calls (w : World) : Calls Try.prog 4 #[] w fun e w' => ∃ g r A, e = .returned (.agg #[.slice (some ⟨g, 0, none⟩) 1 1, .slice A 0 0]) ∧ Desk1 w.heap.size g r one w' ∧ Below w.heap.size w w' := by
  go_enter Try.func4, Try.ntmps4
  go_wp2
  refine bodyPost_ret (v := .agg #[.slice (some ⟨w.heap.size + 1 + 1, 0, none⟩) 1 1, .slice (some ⟨w.heap.size + 1 + 1 + 1, 0, none⟩) 0 0]) (by simp [results, Try.results4, go_sem]) rfl ?_
  refine ⟨_, w.heap.size + 1, _, rfl, (Desk1.mk ?_ ?_ ?_ : Desk1 _ _ _ _ _).below (below_alloc (Below.refl _ _) _), ((((Below.refl _ _).alloc (Nat.le_refl _) _).alloc (by simp) _).alloc (by simp; omega) _).alloc (by simp; omega) _⟩
  · have h := heap_alloc_new ((w.alloc (.cells #[Value.slice (some ⟨w.heap.size + 1 + 1, 0, none⟩) 1 1, Value.slice (some ⟨w.heap.size + 1 + 1 + 1, 0, none⟩) 0 0] 27)).alloc (.cells #[Value.string { data := #[49] }] 9)) (.cells #[Value.slice (some ⟨w.heap.size + 1, 0, none⟩) 1 1] 32)
    rwa [show ((w.alloc (.cells #[Value.slice (some ⟨w.heap.size + 1 + 1, 0, none⟩) 1 1, Value.slice (some ⟨w.heap.size + 1 + 1 + 1, 0, none⟩) 0 0] 27)).alloc (.cells #[Value.string { data := #[49] }] 9)).heap.size = w.heap.size + 1 + 1 by simp] at h
  · refine Kd.R_of_own (enc := Value.string) ?_ (fun k hk => by simpa [Value.ownBlock] using hk.symm)
    have h1 := own_lit_of (enc := Value.string) (w.alloc (.cells #[Value.slice (some ⟨w.heap.size + 1 + 1, 0, none⟩) 1 1, Value.slice (some ⟨w.heap.size + 1 + 1 + 1, 0, none⟩) 0 0] 27)) w.heap.size 9 [one] (by simp) (by simp)
    have h2 := h1.alloc (.cells #[Value.slice (some ⟨w.heap.size + 1, 0, none⟩) 1 1] 32)
    simpa [encs, one] using h2
  · omega
theorem eqD_ev : ∃ k, laws_eqDesk.f k [[one]] [] [[one]] [] = some true := ⟨10, by decide +kernel⟩
theorem heldD_ev : ∃ k, laws_heldDesk.f k [[m101]] [] 101 = some 102 := ⟨20, by decide +kernel⟩
theorem C_nil (w : World) (A : Option Addr) : Kd.C k40 w A 0 [] := ⟨rfl, by omega, fun h => absurd h (by omega)⟩
set_option maxHeartbeats 4000000 in
set_option maxRecDepth 100000 in
theorem law_calls (w : World) : Calls Try.prog 3 #[] w fun e w' => e = .returned (.bool true) ∧ Below w.heap.size w w' := by
  obtain ⟨ke, hke⟩ := eqD_ev
  obtain ⟨kh, hkh⟩ := heldD_ev
  have HKE := Aside0.mk hke
  have HKH := Aside0.mk hkh
  clear hke hkh
  go_enter Try.func3, Try.ntmps3
  go_wp2_with fail
  refine (spec_calls _).mono ?_
  rintro e w1 ⟨g0, r0, A0, rfl, hd0, hb1⟩
  obtain ⟨o1, ho1⟩ : ∃ o, o = Obj.cells #[.slice (some ⟨g0, 0, none⟩) 1 1, .slice A0 0 0] 27 := ⟨_, rfl⟩
  have D0 := Aside0.mk (hd0.below (below_alloc (Below.refl _ _) o1))
  have X1 := Aside0.mk ((heap_alloc_new w1 o1).trans (congrArg some ho1))
  have S1 := Aside0.mk (hb1.trans ((below_alloc (Below.refl w1.heap.size w1) o1).mono hb1.size))
  subst ho1
  clear hd0 hb1
  go_wp2_with fail
  refine (new_calls _).mono ?_
  rintro e w2 ⟨g, r, rfl, hd, hg, hr, hb2⟩
  obtain ⟨W1, hW1⟩ : ∃ W, W = w1.alloc (Obj.cells #[.slice (some ⟨g0, 0, none⟩) 1 1, .slice A0 0 0] 27) := ⟨_, rfl⟩
  have hs1 : W1.heap.size = w1.heap.size + 1 := by rw [hW1]; simp
  rw [← hW1] at D0 X1 S1 hd hg hr hb2
  have HS1 := Aside0.mk hs1
  have D2 := Aside0.mk hd
  have B2 := Aside0.mk hb2
  have hx1 := keepB hb2 X1.out
  have hc10 : w2.cell? ⟨w1.heap.size, 0, none⟩ = some (.slice (some ⟨g0, 0, none⟩) 1 1) := cellB hx1 rfl
  have hc11 : w2.cell? ⟨w1.heap.size, 1, none⟩ = some (.slice A0 0 0) := cellB hx1 rfl
  have hrlt : r < w2.heap.size := by
    obtain ⟨g', cap, he, h1, h2, _⟩ := Kd.R_form hd.own (by simp)
    injection he with he
    injection he with he
    injection he with he
    omega
  have HRL := Aside0.mk hrlt
  have h12 : w1.heap.size < w2.heap.size := by have := hb2.size; omega
  clear hd hg hr hb2 hs1 hW1 hx1 hrlt
  go_wp2_with fail
  refine (laws_eqDesk.calls ke (some ⟨g, 0, none⟩) 1 [[one]] none 0 [] (some ⟨g0, 0, none⟩) 1 [[one]] A0 0 [] true _ (D2.out.below (below_alloc (Below.refl _ _) _)).reads (by simp) (C_nil _ _) (by simp) ((D0.out.below B2.out).below (below_alloc (Below.refl _ _) _)).reads (by simp) (C_nil _ _) (by simp) HKE.out).mono ?_
  rintro e w3 ⟨rfl, hb3⟩
  obtain ⟨o2, ho2⟩ : ∃ o, o = Obj.cells #[.slice (some ⟨g, 0, none⟩) 1 1, .slice none 0 0] 27 := ⟨_, rfl⟩
  rw [← ho2] at hb3
  have D3 := Aside0.mk ((D2.out.below (below_alloc (Below.refl _ _) o2)).below hb3)
  have X2 := Aside0.mk ((keepB hb3 (heap_alloc_new w2 o2)).trans (congrArg some ho2))
  have B3 := Aside0.mk (B2.out.trans (((below_alloc (Below.refl w2.heap.size w2) o2).mono B2.out.size).trans (hb3.mono (Nat.le_trans B2.out.size (below_alloc (Below.refl w2.heap.size w2) o2).size))))
  have hc20 : w3.cell? ⟨w2.heap.size, 0, none⟩ = some (.slice (some ⟨g, 0, none⟩) 1 1) := cellB X2.out rfl
  have hc21 : w3.cell? ⟨w2.heap.size, 1, none⟩ = some (.slice none 0 0) := cellB X2.out rfl
  clear hb3 ho2 hc10 hc11 h12
  go_wp2_with fail
  refine (markDesk_calls W1.heap.size g r _ D3.out W1 rfl B3.out).mono ?_
  rintro e w4 ⟨rfl, hd4, hb4, hk4⟩
  have hlt2 : w2.heap.size < w3.heap.size := by
    rcases Nat.lt_or_ge w2.heap.size w3.heap.size with h' | h'
    · exact h'
    · have := X2.out
      rw [Array.getElem?_eq_none h'] at this; cases this
  have X4 := Aside0.mk ((hk4 w2.heap.size hlt2 (by have := HRL.out; omega)).trans X2.out)
  have D4 := Aside0.mk hd4
  have B4 := Aside0.mk hb4
  have hc40 : w4.cell? ⟨w2.heap.size, 0, none⟩ = some (.slice (some ⟨g, 0, none⟩) 1 1) := cellB X4.out rfl
  have hc41 : w4.cell? ⟨w2.heap.size, 1, none⟩ = some (.slice none 0 0) := cellB X4.out rfl
  clear hd4 hb4 hk4 hlt2 hc20 hc21
  go_wp2_with fail
  refine (laws_heldDesk.calls kh (some ⟨g, 0, none⟩) 1 [[m101]] none 0 [] 101 102 _ D4.out.reads (by simp) (C_nil _ _) (by simp) HKH.out).mono ?_
  rintro e w5 ⟨rfl, hb5⟩
  have D5 := Aside0.mk (D4.out.below hb5)
  have X5 := Aside0.mk (keepB hb5 X4.out)
  have B5 := Aside0.mk (B4.out.trans (hb5.mono B4.out.size))
  clear hb5 hc40 hc41
  go_wp2_with fail
  refine (new_calls _).mono ?_
  rintro e w6 ⟨g6, r6, rfl, hd6, hg6, hr6, hb6⟩
  have D6 := Aside0.mk hd6
  have X6 := Aside0.mk (keepB hb6 X5.out)
  have E6 := Aside0.mk (D5.out.below hb6)
  have B6 := Aside0.mk (B5.out.trans (hb6.mono B5.out.size))
  have hx6 := keepB B6.out X1.out
  have h16 : w1.heap.size < w6.heap.size := by have := B6.out.size; have := HS1.out; omega
  have hc60 : w6.cell? ⟨w1.heap.size, 0, none⟩ = some (.slice (some ⟨g0, 0, none⟩) 1 1) := cellB hx6 rfl
  have hc61 : w6.cell? ⟨w1.heap.size, 1, none⟩ = some (.slice A0 0 0) := cellB hx6 rfl
  clear hd6 hg6 hr6 hb6 hx6
  go_wp2_with fail
  refine (laws_eqDesk.calls ke (some ⟨g6, 0, none⟩) 1 [[one]] none 0 [] (some ⟨g0, 0, none⟩) 1 [[one]] A0 0 [] true _ (D6.out.below (below_alloc (Below.refl _ _) _)).reads (by simp) (C_nil _ _) (by simp) ((D0.out.below B6.out).below (below_alloc (Below.refl _ _) _)).reads (by simp) (C_nil _ _) (by simp) HKE.out).mono ?_
  rintro e w7 ⟨rfl, hb7⟩
  obtain ⟨o3, ho3⟩ : ∃ o, o = Obj.cells #[.slice (some ⟨g6, 0, none⟩) 1 1, .slice none 0 0] 27 := ⟨_, rfl⟩
  rw [← ho3] at hb7
  have D7 := Aside0.mk ((E6.out.below (below_alloc (Below.refl _ _) o3)).below hb7)
  have hx7 := keepB hb7 (keepB (below_alloc (Below.refl w6.heap.size w6) o3) X6.out)
  have B7 := Aside0.mk (B6.out.trans (((below_alloc (Below.refl w6.heap.size w6) o3).mono B6.out.size).trans (hb7.mono (Nat.le_trans B6.out.size (below_alloc (Below.refl w6.heap.size w6) o3).size))))
  have hc70 : w7.cell? ⟨w2.heap.size, 0, none⟩ = some (.slice (some ⟨g, 0, none⟩) 1 1) := cellB hx7 rfl
  have hc71 : w7.cell? ⟨w2.heap.size, 1, none⟩ = some (.slice none 0 0) := cellB hx7 rfl
  clear hb7 ho3 hx7 hc60 hc61 h16
  go_wp2_with fail
  refine (laws_heldDesk.calls kh (some ⟨g, 0, none⟩) 1 [[m101]] none 0 [] 101 102 _ D7.out.reads (by simp) (C_nil _ _) (by simp) HKH.out).mono ?_
  rintro e w8 ⟨rfl, hb8⟩
  have HB8 := Aside0.mk (S1.out.trans ((B7.out.trans (hb8.mono B7.out.size)).mono S1.out.size))
  clear hb8 hc70 hc71
  go_wp2_with fail
  go_ret
  exact ⟨rfl, HB8.out⟩
end Go.Proofs.Ytbaephhcniginaa.PFnExactNewDesk
