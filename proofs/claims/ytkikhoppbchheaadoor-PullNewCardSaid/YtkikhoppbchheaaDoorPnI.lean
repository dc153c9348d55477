/- Walks for PullNew: ticks. -/
import Derived.Test.YtkikhoppbchheaaDoorPnH
namespace Go.Proofs.YtkikhoppbchheaaDoor
open Go Go.RowKit
structure St where
  d : Int
  t0 : Int
  t1 : Nat
  t2 : Int
  n : Nat
def stepF (s : St) : St := if s.d ≠ 0 then s else if 1 < s.t2 then { s with t2 := s.t2 - 1 } else if 4 ≤ s.t1 then { s with d := 3, t0 := 2, t2 := 0 } else ⟨0, 1, s.t1 + 1, waitN (s.t1 + 1) 2, s.n + 1⟩
def ticksF : Nat → St → St
  | 0, s => s
  | k + 1, s => ticksF k (stepF s)
/-- It asks, or it failed. -/
structure Fine (s : St) : Prop where
  one : (s.d = 0 ∧ s.t0 = 1 ∧ 1 ≤ s.t2 ∧ s.t2 ≤ 64 ∧ s.t1 ≤ 4 ∧ s.n + (4 - s.t1) ≤ 50) ∨ s.d = 3
theorem waitN_range : ∀ (n : Nat) (w : Int), 1 ≤ w → w ≤ 64 → 1 ≤ waitN n w ∧ waitN n w ≤ 64
  | 0, w, h1, h2 => ⟨h1, h2⟩
  | n + 1, w, h1, h2 => by
    rw [waitN]
    split
    · exact waitN_range n _ (by omega) (by omega)
    · exact ⟨h1, h2⟩
theorem Fine.step {s : St} (h : Fine s) : Fine (stepF s) := by
  obtain ⟨h⟩ := h
  unfold stepF
  split
  · exact ⟨h⟩
  · rename_i hd
    have hd : s.d = 0 := by omega
    have h : s.t0 = 1 ∧ 1 ≤ s.t2 ∧ s.t2 ≤ 64 ∧ s.t1 ≤ 4 ∧ s.n + (4 - s.t1) ≤ 50 := by 
      rcases h with h | h
      · exact h.2
      · omega
    split
    · exact ⟨.inl ⟨hd, h.1, by dsimp only; omega, by dsimp only; omega, h.2.2.2.1, h.2.2.2.2⟩⟩
    · split
      · exact ⟨.inr rfl⟩
      · have := waitN_range (s.t1 + 1) 2 (by omega) (by omega)
        exact ⟨.inl ⟨rfl, rfl, this.1, this.2, by dsimp only; omega, by dsimp only; omega⟩⟩
/-- A pull in a state, its words a row of its own. -/
structure PS (w : World) (g base : Nat) (a b s : Int) (st : St) : Prop where
  out : ∃ v xs, Pull w g a b s st.d st.t0 st.t1 st.t2 v ∧ w.ownsRow base 38 41 v st.n xs ∧ v.ownBlock ≠ some g
theorem Pull.set678 {w : World} {g : Nat} {a b s d t0 t1 t2 : Int} {v : Value} (h : Pull w g a b s d t0 t1 t2 v) (x y z : Int) :
    Pull (((w.setCell ⟨g, 6, none⟩ (.int .i64 x)).setCell ⟨g, 7, none⟩ (.int .i64 y)).setCell ⟨g, 8, none⟩ (.int .i64 z)) g a b s d x y z v := by
  have h1 := heap_setCell_same w g 6 _ _ (.int .i64 x) h
  have h2 := heap_setCell_same _ g 7 _ _ (.int .i64 y) h1
  have h3 := heap_setCell_same _ g 8 _ _ (.int .i64 z) h2
  exact h3
theorem own_set3 {w : World} {base g : Nat} {e : TypeId} {size n : Nat} {v : Value} {xs : List Value} (h : w.ownsRow base e size v n xs) (hne : v.ownBlock ≠ some g) (x y z : Value) :
    (((w.setCell ⟨g, 6, none⟩ x).setCell ⟨g, 7, none⟩ y).setCell ⟨g, 8, none⟩ z).ownsRow base e size v n xs := own_setCell (own_setCell (own_setCell h hne _) hne _) hne _
theorem below_set3 {w0 w : World} {base g : Nat} (h : Below base w0 w) (hg : base ≤ g) (x y z : Value) : Below base w0 (((w.setCell ⟨g, 6, none⟩ x).setCell ⟨g, 7, none⟩ y).setCell ⟨g, 8, none⟩ z) :=
  ((h.setCell (p := ⟨g, 6, none⟩) hg _).setCell (p := ⟨g, 7, none⟩) hg _).setCell (p := ⟨g, 8, none⟩) hg _
set_option maxRecDepth 100000 in
set_option maxHeartbeats 800000 in
theorem tick_calls (g base m : Nat) (hm0 : 0 < m) (hm : m ≤ 1000) (a b s : Int) (st : St) (w : World) (hst : Fine st) (h : PS w g base a b s st) (hbg : base ≤ g) :
    Calls Tryd.prog 19 #[.pointer (some ⟨g, 0, none⟩), .int .i64 m] w fun e w' => e = .returned (.tuple #[]) ∧ PS w' g base a b s (ticksF m st) ∧ Below base w w' := by
  have hmn : IntKind.i64.wrap (m : Int) = m := IntWalk.i64_in _ (by omega)
  go_enter Tryd.func19, Tryd.ntmps19
  go_wp2_with fail
  have hst0 := hst
  clear hst
  go_loopw [9] (fun i wr => ∃ (k : Nat) (sk : St), k ≤ m ∧ i = .int .i64 k ∧ Fine sk ∧ PS wr g base a b s sk ∧ ticksF (m - k) sk = ticksF m st ∧ Below base w wr) (fun i _ => m - (intOf i).toNat)
  case atStart => exact ⟨0, st, by omega, rfl, hst0, h, rfl, Below.refl _ _⟩
  case round =>
    obtain ⟨k, sk, hk, rfl, hf, ⟨v, xs, hp, hown, hne⟩, htk, hb⟩ := hrel
    by_cases hlt : k < m
    · obtain ⟨j, hj⟩ : ∃ j, m - k = j + 1 := ⟨m - k - 1, by omega⟩
      rw [hj, ticksF] at htk
      have hj2 : m - (k + 1) = j := by omega
      obtain ⟨d, t0, t1, t2, n⟩ := sk
      dsimp only at hp hown
      have hfs := hf.step
      obtain ⟨hf⟩ := hf
      dsimp only at hf
      rcases hf with ⟨rfl, rfl, ht2, ht64, ht1, htn⟩ | rfl
      · -- it asks
        have c6 := hp.c6
        have c7 := hp.c7
        have c8 := hp.c8
        have hlg := hp.lt
        by_cases h1 : 1 < t2
        · have hs : stepF ⟨0, 1, t1, t2, n⟩ = ⟨0, 1, t1, t2 - 1, n⟩ := by simp [stepF, h1]
          rw [hs] at htk hfs
          have HT := Lib.hid (by rw [hj2]; exact htk : ticksF (m - (k + 1)) ⟨0, 1, t1, t2 - 1, n⟩ = ticksF m st)
          clear htk hj hj2 hs
          go_wp2_with fail
          refine (asks_yes hp).mono ?_
          rintro e w1 ⟨rfl, rfl⟩
          go_wp2_with fail
          refine (ttick_more _ _ _ h1 ht64).mono ?_
          rintro e W1 ⟨rfl, hb1⟩
          have hp1 := hp.below hb1
          have hown1 := own_below hown hb1
          have hB1 : Below base w W1 := bthen hb (by omega) hb1
          clear c6 c7 c8 hlg hb1
          have d6 := hp1.c6
          have d7 := hp1.c7
          have d8 := hp1.c8
          have f6 := hp1.fr 6
          have f7 := hp1.fr 7
          have f8 := hp1.fr 8
          have hlg := hp1.lt
          go_wp2_with fail
          refine ⟨⟨k + 1, _, by omega, by go_num, hfs, ⟨v, xs, (hp1.set678 1 t1 (t2 - 1)).below (ball (Below.refl _ _) _), (own_set3 hown1 hne _ _ _).alloc _, hne⟩, HT.out, (below_set3 hB1 hbg _ _ _).alloc (by simp; omega) _⟩, by simp [intOf]; omega⟩
        · obtain rfl : t2 = 1 := by omega
          by_cases h4 : 4 ≤ t1
          · have hs : stepF ⟨0, 1, t1, 1, n⟩ = ⟨3, 2, t1, 0, n⟩ := by simp [stepF, h4]
            rw [hs] at htk hfs
            have HT := Lib.hid (by rw [hj2]; exact htk : ticksF (m - (k + 1)) ⟨3, 2, t1, 0, n⟩ = ticksF m st)
            clear htk hj hj2 hs
            have h4' : decide (4 ≤ (t1 : Int)) = true := by simp; omega
            go_wp2_with fail
            refine (asks_yes hp).mono ?_
            rintro e w1 ⟨rfl, rfl⟩
            go_wp2_with fail
            refine (ttick_rings _ _).mono ?_
            rintro e W1 ⟨rfl, hb1⟩
            have hp1 := hp.below hb1
            have hown1 := own_below hown hb1
            have hB1 : Below base w W1 := bthen hb (by omega) hb1
            clear c6 c7 c8 hlg hb1
            have d6 := hp1.c6
            have d7 := hp1.c7
            have d8 := hp1.c8
            have f6 := hp1.fr 6
            have f7 := hp1.fr 7
            have f8 := hp1.fr 8
            have hlg := hp1.lt
            go_wp2_with fail
            refine (spent_calls _ _ _).mono ?_
            rintro e W2 ⟨rfl, hb2⟩
            have hp2 := ((hp1.set678 2 t1 0).below (ball (Below.refl _ _) (Obj.cells #[Value.int IntKind.i64 2, Value.int IntKind.i64 t1, Value.int IntKind.i64 0] 51))).below hb2
            have hown2 := own_below ((own_set3 hown1 hne _ _ _).alloc _) hb2
            have hB2 : Below base w W2 := bthen ((below_set3 hB1 hbg _ _ _).alloc (by simp; omega) _) (by simp; omega) hb2
            have hsz2 := hb2.size
            clear d6 d7 d8 f6 f7 f8
            clear hlg hb2 hsz2
            have d5 := hp2.c5
            have f5 := hp2.fr 5
            have hlg := hp2.lt
            go_wp2_with fail
            refine ⟨⟨k + 1, _, by omega, by go_num, hfs, ⟨v, xs, hp2.set5 3, own_setCell hown2 hne _, hne⟩, HT.out, hB2.setCell (p := ⟨g, 5, none⟩) hbg _⟩, by simp [intOf]; omega⟩
          · have hs : stepF ⟨0, 1, t1, 1, n⟩ = ⟨0, 1, t1 + 1, waitN (t1 + 1) 2, n + 1⟩ := by simp [stepF, h4]
            rw [hs] at htk hfs
            have HT := Lib.hid (by rw [hj2]; exact htk : ticksF (m - (k + 1)) ⟨0, 1, t1 + 1, waitN (t1 + 1) 2, n + 1⟩ = ticksF m st)
            clear htk hj hj2 hs
            have h4' : decide (4 ≤ (t1 : Int)) = false := by simp; omega
            go_wp2_with fail
            refine (asks_yes hp).mono ?_
            rintro e w1 ⟨rfl, rfl⟩
            go_wp2_with fail
            refine (ttick_rings _ _).mono ?_
            rintro e W1 ⟨rfl, hb1⟩
            have hp1 := hp.below hb1
            have hown1 := own_below hown hb1
            have hB1 : Below base w W1 := bthen hb (by omega) hb1
            clear c6 c7 c8 hlg hb1
            have d6 := hp1.c6
            have d7 := hp1.c7
            have d8 := hp1.c8
            have f6 := hp1.fr 6
            have f7 := hp1.fr 7
            have f8 := hp1.fr 8
            have hlg := hp1.lt
            go_wp2_with fail
            refine (spent_calls _ _ _).mono ?_
            rintro e W2 ⟨rfl, hb2⟩
            have hp2 := ((hp1.set678 2 t1 0).below (ball (Below.refl _ _) (Obj.cells #[Value.int IntKind.i64 2, Value.int IntKind.i64 t1, Value.int IntKind.i64 0] 51))).below hb2
            have hown2 := own_below ((own_set3 hown1 hne _ _ _).alloc _) hb2
            have hB2 : Below base w W2 := bthen ((below_set3 hB1 hbg _ _ _).alloc (by simp; omega) _) (by simp; omega) hb2
            have hsz2 := hb2.size
            clear d6 d7 d8 f6 f7 f8
            have hc2 := (bcell hb2).1
            have e0 : W2.cell? ⟨W1.heap.size, 0, none⟩ = some (.int .i64 2) := (hc2 _ _ (by simp)).trans (by go_simp)
            have e1 : W2.cell? ⟨W1.heap.size, 1, none⟩ = some (.int .i64 t1) := (hc2 _ _ (by simp)).trans (by go_simp)
            have e2 : W2.cell? ⟨W1.heap.size, 2, none⟩ = some (.int .i64 0) := (hc2 _ _ (by simp)).trans (by go_simp)
            clear hc2 hb2 hlg
            have hlg := hp2.lt
            go_wp2_with fail
            refine (again_calls t1 (by omega) _).mono ?_
            rintro e W3 ⟨rfl, hb3⟩
            have hp3 := hp2.below hb3
            have hown3 := own_below hown2 hb3
            have hB3 : Below base w W3 := bthen hB2 (by have := hB2.size; omega) hb3
            clear e0 e1 e2 hlg hb3
            have d6 := hp3.c6
            have d7 := hp3.c7
            have d8 := hp3.c8
            have f6 := hp3.fr 6
            have f7 := hp3.fr 7
            have f8 := hp3.fr 8
            have hlg := hp3.lt
            go_wp2_with fail
            clear d6 d7 d8 f6 f7 f8 hlg
            refine (say_calls g base n a b s _ _ _ _ _ _ (hp3.set678 1 (t1 + 1) (waitN (t1 + 1) 2)) (own_set3 hown3 hne _ _ _) hbg (by omega) hne).mono ?_
            rintro e W5 ⟨rfl, v5, hp5, hown5, hne5, hB5⟩
            go_wp2_with fail
            refine ⟨⟨k + 1, _, by omega, by go_num, hfs, ⟨v5, _, hp5, hown5, hne5⟩, HT.out, (below_set3 hB3 hbg _ _ _).trans hB5⟩, by simp [intOf]; omega⟩
      · -- it failed
        have hs : stepF ⟨3, t0, t1, t2, n⟩ = ⟨3, t0, t1, t2, n⟩ := by simp [stepF]
        have hall : ∀ j, ticksF j ⟨3, t0, t1, t2, n⟩ = ⟨3, t0, t1, t2, n⟩ := fun j => by
          induction j with
          | zero => rfl
          | succ j ih => rw [ticksF, hs, ih]
        rw [hs, hall] at htk
        have HT := Lib.hid htk
        clear htk hj hj2 hall hs
        go_wp2_with fail
        refine (asks_no hp).mono ?_
        rintro e w1 ⟨rfl, rfl⟩
        go_wp2_with fail
        exact bodyPost_ret (results_none rfl _ _ _) rfl ⟨rfl, by rw [← HT.out]; exact ⟨_, _, hp, hown, hne⟩, hb⟩
    · obtain rfl : k = m := by omega
      rw [Nat.sub_self] at htk
      have HT := Lib.hid htk
      clear htk
      go_wp2_with fail
      refine bodyPost_end (results_none rfl _ _ _) rfl ⟨rfl, ?_, hb⟩
      rw [← HT.out]
      exact ⟨_, _, hp, hown, hne⟩
