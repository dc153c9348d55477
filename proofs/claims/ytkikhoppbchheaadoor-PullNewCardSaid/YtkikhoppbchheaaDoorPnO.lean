/- Walks for PullNew: the example. -/
import Derived.Test.YtkikhoppbchheaaDoorPnN
import Derived.Test.YtkikhoppbchheaaDoorPnI
namespace Go.Proofs.YtkikhoppbchheaaDoor
open Go Go.RowKit
theorem tick_a : ticksF 2 ⟨0, 1, 0, 2, 0⟩ = ⟨0, 1, 1, 4, 1⟩ := by kernel_rfl
theorem tick_b : ticksF 59 ⟨0, 1, 1, 4, 0⟩ = ⟨0, 1, 4, 1, 3⟩ := by kernel_rfl
theorem tick_c : ticksF 1 ⟨0, 1, 4, 1, 3⟩ = ⟨3, 2, 4, 0, 3⟩ := by kernel_rfl
set_option maxRecDepth 100000 in
set_option maxHeartbeats 800000 in
theorem awake_calls (w : World) : Calls Tryd.prog 9 #[] w fun e w' => e = .returned (.bool true) ∧ Below w.heap.size w w' := by
  go_enter Tryd.func9, Tryd.ntmps9
  go_wp2_with fail
  refine (new_calls 1 0 5 _).mono ?_
  rintro e W1 ⟨hB1, (⟨hc, rfl⟩ | ⟨-, G, v, rfl, hG, hp, hown, hne⟩)⟩
  · exact absurd rfl hc
  obtain ⟨g2, cap2, rfl, hg2, _⟩ := hown.form (by omega)
  go_wp2_with fail
  refine (says_calls hp).mono ?_
  rintro e W2 ⟨rfl, rfl⟩
  have hp2 := hp.set9 (.slice none 0 0)
  have hB2 := hB1.setCell (p := ⟨G, 9, none⟩) hG (.slice none 0 0)
  generalize (W1.setCell ⟨G, 9, none⟩ (.slice none 0 0)) = W2 at *
  have hps : PS W2 G w.heap.size 1 0 5 ⟨0, 1, 0, 2, 0⟩ := ⟨_, [], hp2, own_nil .., by simp [Value.ownBlock]⟩
  clear hp hown hne hg2 hB1 hp2
  go_wp2_with fail
  refine (tick_calls G w.heap.size 2 (by omega) (by omega) 1 0 5 _ W2 ⟨.inl ⟨rfl, rfl, by decide, by decide, by decide, by decide⟩⟩ hps hG).mono ?_
  rintro e W3 ⟨rfl, hps3, hb3⟩
  rw [tick_a] at hps3
  obtain ⟨v3, xs3, hp3, hown3, hne3⟩ := hps3
  obtain ⟨g3, cap3, rfl, hg3, _⟩ := hown3.form (by show 0 < 1; omega)
  have hB3 := hB2.trans hb3
  clear hps hB2 hb3
  go_wp2_with fail
  refine (says_calls hp3).mono ?_
  rintro e W4 ⟨rfl, rfl⟩
  have hp4 := hp3.set9 (.slice none 0 0)
  have hB4 := hB3.setCell (p := ⟨G, 9, none⟩) hG (.slice none 0 0)
  generalize (W3.setCell ⟨G, 9, none⟩ (.slice none 0 0)) = W4 at *
  have hps : PS W4 G w.heap.size 1 0 5 ⟨0, 1, 1, 4, 0⟩ := ⟨_, [], hp4, own_nil .., by simp [Value.ownBlock]⟩
  clear hp3 hown3 hne3 hg3 hB3 hp4
  go_wp2_with fail
  refine (tick_calls G w.heap.size 59 (by omega) (by omega) 1 0 5 _ W4 ⟨.inl ⟨rfl, rfl, by decide, by decide, by decide, by decide⟩⟩ hps hG).mono ?_
  rintro e W5 ⟨rfl, hps5, hb5⟩
  rw [tick_b] at hps5
  have hB5 := hB4.trans hb5
  clear hps hB4 hb5
  obtain ⟨v5, xs5, hp5, hown5, hne5⟩ := hps5
  go_wp2_with fail
  refine (failed_no hp5).mono ?_
  rintro e w1 ⟨rfl, rfl⟩
  go_wp2_with fail
  refine (tick_calls G w.heap.size 1 (by omega) (by omega) 1 0 5 ⟨0, 1, 4, 1, 3⟩ W5 ⟨.inl ⟨rfl, rfl, by decide, by decide, by decide, by decide⟩⟩ ⟨_, _, hp5, hown5, hne5⟩ hG).mono ?_
  rintro e W6 ⟨rfl, hps6, hb6⟩
  rw [tick_c] at hps6
  have hB6 := hB5.trans hb6
  clear hB5 hb6 hp5 hown5 hne5
  obtain ⟨v6, xs6, hp6, hown6, hne6⟩ := hps6
  obtain ⟨g6, cap6, rfl, hg6, _⟩ := hown6.form (by show 0 < 3; omega)
  clear hown6 hne6 hg6
  go_wp2_with fail
  refine (failed_yes hp6).mono ?_
  rintro e w1 ⟨rfl, rfl⟩
  go_wp2_with fail
  refine (asks_no hp6).mono ?_
  rintro e w1 ⟨rfl, rfl⟩
  go_wp2_with fail
  refine (says_calls hp6).mono ?_
  rintro e W7 ⟨rfl, rfl⟩
  have hB7 := hB6.setCell (p := ⟨G, 9, none⟩) hG (.slice none 0 0)
  go_wp2_with fail
  go_ret
  exact ⟨rfl, hB7⟩
