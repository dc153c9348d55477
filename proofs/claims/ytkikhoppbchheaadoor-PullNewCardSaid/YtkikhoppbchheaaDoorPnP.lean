/- Walks for PullNew: the statement's own function. -/
import Derived.Test.YtkikhoppbchheaaDoorPnO
namespace Go.Proofs.YtkikhoppbchheaaDoor
open Go Go.RowKit
theorem range_own {w : World} {base g cap : Nat} {xs : List Value} (h : w.ownsRow base 38 41 (.slice (some ⟨g, 0, none⟩) 1 cap) 1 xs) : w.rangeAt g 0 xs ∧ g < w.heap.size := by
  obtain ⟨_, h | ⟨g', cap', cur, he, _, hr, _, _, _, ht⟩⟩ := h
  · exact absurd h.2 (by omega)
  · cases he
    refine ⟨fun j v hv => ?_, lt_of_blk hr⟩
    rw [Nat.zero_add, cell_of_row w g j cur 38 (0, 0) hr]
    rw [← ht, List.getElem?_take] at hv
    split at hv
    · simpa using hv
    · cases hv
set_option maxRecDepth 100000 in
set_option maxHeartbeats 800000 in
theorem pullNew_calls (a b s : Int) (w : World) : Calls Tryd.prog 3 #[.int .i64 a, .int .i64 b, .int .i64 s] w fun e w' => e = .returned (.bool true) ∧ Below w.heap.size w w' := by
  obtain ⟨hz, hs⟩ := zero_of_info info43
  have HS := Lib.hid hs
  clear hs
  go_enter Tryd.func3, Tryd.ntmps3
  go_wp2_with fail
  refine (new_calls a b s _).mono ?_
  rintro e W1 ⟨hB1, (⟨hc, rfl⟩ | ⟨hc, G, v, rfl, hG, hp, hown, hne⟩)⟩
  · go_wp2_with fail
    refine (rnew_calls a b s _).mono ?_
    rintro e W2 ⟨hB2, (⟨hc2, rfl⟩ | ⟨hc2, _⟩)⟩
    rotate_left
    · exact absurd hc2 hc
    have hBw := Lib.hid (bthen' hB1 hB2)
    have HZ := Lib.hid (heap_alloc_last W2 (.cells (refC 0 0 0 false 0 (.slice none 0 0)) 43))
    clear hB1 hB2
    go_wp2_with (refine wpList_store_blk rfl 43 _ _ rfl W2.heap.size rfl (refC 0 0 0 false 0 (.slice none 0 0)) rfl 43 (refC 0 0 0 false 0 (.slice none 0 0)) HZ.out HS.out rfl (refC_one ..) ?_; rw [World.setRow_alloc_new])
    have c9 : (W2.alloc (.cells (refC 0 0 0 false 0 (.slice none 0 0)) 43)).cell? ⟨W2.heap.size, 9, none⟩ = some (.slice none 0 0) := cell_of_row _ _ _ _ _ _ HZ.out
    have hB3 := ball hBw.out (.cells (refC 0 0 0 false 0 (.slice none 0 0)) 43)
    generalize (W2.alloc (.cells (refC 0 0 0 false 0 (.slice none 0 0)) 43)) = W3 at *
    refine wp_region_seq (fun w' => w'.cell? ⟨W2.heap.size, 9, none⟩ = some (.slice none 0 0)) [(0, true), (1, true), (2, true), (3, true), (4, true), (5, true), (7, true), (8, true), (6, false), (9, false), (10, true), (11, true), (12, true), (14, true), (13, false), (15, true), (16, true), (17, true), (18, false), (19, true), (20, true)] 21 (by kernel_rfl) (by kernel_rfl) c9 ?_
    repeat (first
      | (apply held_det
         · rfl
         · first | rfl | (simp [Region.wanted, yielded, *]; done)
         · (intro w' hS; obtain hS0 := hS; go_simp; first | done | exact rfl)
         simp only [Act.put, List.set_cons_zero, List.set_cons_succ, List.setIfInBounds_toArray])
      | (apply held_skip
         · rfl
         · first | rfl | (simp [Region.wanted, yielded, *]; done)
         simp only [Act.put, List.set_cons_zero, List.set_cons_succ, List.setIfInBounds_toArray]))
    apply held_nd
    · rfl
    · rfl
    intro k hk
    go_wp2_with fail
    refine (says_nil _).mono ?_
    rintro e w1 ⟨rfl, rfl⟩
    refine hk _ _ ⟨fun _ => c9, ?_⟩
    clear hk k
    try simp only [Act.put, List.set_cons_zero, List.set_cons_succ, List.setIfInBounds_toArray]
    repeat (first
      | (apply held_det
         · rfl
         · first | rfl | (simp [Region.wanted, yielded, *]; done)
         · (intro w' hS; obtain hS0 := hS; go_simp; first | done | exact rfl)
         simp only [Act.put, List.set_cons_zero, List.set_cons_succ, List.setIfInBounds_toArray])
      | (apply held_skip
         · rfl
         · first | rfl | (simp [Region.wanted, yielded, *]; done)
         simp only [Act.put, List.set_cons_zero, List.set_cons_succ, List.setIfInBounds_toArray]))
    apply held_nd
    · rfl
    · rfl
    intro k hk
    go_wp2_with fail
    refine (sameAll_nil _).mono ?_
    rintro e w1 ⟨rfl, rfl⟩
    refine hk _ _ ⟨fun _ => c9, ?_⟩
    clear hk k
    try simp only [Act.put, List.set_cons_zero, List.set_cons_succ, List.setIfInBounds_toArray]
    repeat (first
      | (apply held_det
         · rfl
         · first | rfl | (simp [Region.wanted, yielded, *]; done)
         · (intro w' hS; obtain hS0 := hS; go_simp; first | done | exact rfl)
         simp only [Act.put, List.set_cons_zero, List.set_cons_succ, List.setIfInBounds_toArray])
      | (apply held_skip
         · rfl
         · first | rfl | (simp [Region.wanted, yielded, *]; done)
         simp only [Act.put, List.set_cons_zero, List.set_cons_succ, List.setIfInBounds_toArray]))
    apply held_nd
    · rfl
    · rfl
    intro k hk
    go_wp2_with fail
    refine (asks_nil _).mono ?_
    rintro e w1 ⟨rfl, rfl⟩
    refine hk _ _ ⟨fun _ => c9, ?_⟩
    clear hk k
    try simp only [Act.put, List.set_cons_zero, List.set_cons_succ, List.setIfInBounds_toArray]
    repeat (first
      | (apply held_det
         · rfl
         · first | rfl | (simp [Region.wanted, yielded, *]; done)
         · (intro w' hS; obtain hS0 := hS; go_simp; first | done | exact rfl)
         simp only [Act.put, List.set_cons_zero, List.set_cons_succ, List.setIfInBounds_toArray])
      | (apply held_skip
         · rfl
         · first | rfl | (simp [Region.wanted, yielded, *]; done)
         simp only [Act.put, List.set_cons_zero, List.set_cons_succ, List.setIfInBounds_toArray]))
    apply held_nd
    · rfl
    · rfl
    intro k hk
    go_wp2_with fail
    refine (awake_calls _).mono ?_
    rintro e W4 ⟨rfl, hb4⟩
    have hb4 : Below W3.heap.size W3 W4 := bthen' (bdrew1 (Below.refl _ _)) hb4
    refine hk _ _ ⟨fun _ => ((bcell hb4).1 _ _ (lt_of_blk HZ.out)).trans c9, ?_⟩
    clear hk k
    try simp only [Act.put, List.set_cons_zero, List.set_cons_succ, List.setIfInBounds_toArray]
    repeat (first
      | (apply held_det
         · rfl
         · first | rfl | (simp [Region.wanted, yielded, *]; done)
         · (intro w' hS; obtain hS0 := hS; go_simp; first | done | exact rfl)
         simp only [Act.put, List.set_cons_zero, List.set_cons_succ, List.setIfInBounds_toArray])
      | (apply held_skip
         · rfl
         · first | rfl | (simp [Region.wanted, yielded, *]; done)
         simp only [Act.put, List.set_cons_zero, List.set_cons_succ, List.setIfInBounds_toArray]))
    refine held_nil ?_
    go_wp2_with fail
    go_ret
    exact ⟨rfl, bthen' hB3 hb4⟩
  · have hGlt := hp.lt
    obtain ⟨g2, cap2, rfl, hg2, _⟩ := hown.form (by omega)
    go_wp2_with fail
    refine (rnew_calls a b s _).mono ?_
    rintro e W2 ⟨hB2, (⟨hc2, _⟩ | ⟨-, v2, rfl, hown2⟩)⟩
    · exact absurd hc hc2
    obtain ⟨g4, cap4, rfl, hg4, _⟩ := hown2.form (by omega)
    have hp2 := hp.below hB2
    have hownA := own_below hown hB2
    have hBw := Lib.hid (bthen' hB1 hB2)
    have HZ0 := Lib.hid (heap_alloc_last W2 (.cells (refC 0 0 0 false 0 (.slice none 0 0)) 43))
    have hlt := hp2.lt
    clear hB1 hB2 hp hown
    go_wp2_with (refine wpList_store_blk rfl 43 _ _ rfl W2.heap.size rfl (refC a b s true 2 (.slice (some ⟨g4, 0, none⟩) 1 cap4)) rfl 43 (refC 0 0 0 false 0 (.slice none 0 0)) HZ0.out HS.out rfl (refC_one ..) ?_; rw [World.setRow_alloc_new])
    have HZ := Lib.hid (heap_alloc_last W2 (.cells (refC a b s true 2 (.slice (some ⟨g4, 0, none⟩) 1 cap4)) 43))
    have c9 : (W2.alloc (.cells (refC a b s true 2 (.slice (some ⟨g4, 0, none⟩) 1 cap4)) 43)).cell? ⟨W2.heap.size, 9, none⟩ = some (.slice (some ⟨g4, 0, none⟩) 1 cap4) := cell_of_row _ _ _ _ _ _ HZ.out
    have hB3 := ball hBw.out (.cells (refC a b s true 2 (.slice (some ⟨g4, 0, none⟩) 1 cap4)) 43)
    have hp3 := hp2.below (ball (Below.refl _ _) (.cells (refC a b s true 2 (.slice (some ⟨g4, 0, none⟩) 1 cap4)) 43))
    have ho3 := hownA.alloc (.cells (refC a b s true 2 (.slice (some ⟨g4, 0, none⟩) 1 cap4)) 43)
    have hr3 := hown2.alloc (.cells (refC a b s true 2 (.slice (some ⟨g4, 0, none⟩) 1 cap4)) 43)
    clear HZ0 hp2 hownA hown2 hBw
    generalize (W2.alloc (.cells (refC a b s true 2 (.slice (some ⟨g4, 0, none⟩) 1 cap4)) 43)) = W3 at *
    refine wp_region_seq (fun w' => w'.cell? ⟨W2.heap.size, 9, none⟩ = some (.slice (some ⟨g4, 0, none⟩) 1 cap4)) [(0, true), (1, true), (2, true), (3, true), (4, true), (5, true), (7, true), (8, true), (6, false), (9, false), (10, true), (11, true), (12, true), (14, true), (13, false), (15, true), (16, true), (17, true), (18, false), (19, true), (20, true)] 21 (by kernel_rfl) (by kernel_rfl) c9 ?_
    repeat (first
      | (apply held_det
         · rfl
         · first | rfl | (simp [Region.wanted, yielded, *]; done)
         · (intro w' hS; obtain hS0 := hS; go_simp; first | done | exact rfl)
         simp only [Act.put, List.set_cons_zero, List.set_cons_succ, List.setIfInBounds_toArray])
      | (apply held_skip
         · rfl
         · first | rfl | (simp [Region.wanted, yielded, *]; done)
         simp only [Act.put, List.set_cons_zero, List.set_cons_succ, List.setIfInBounds_toArray]))
    apply held_nd
    · rfl
    · rfl
    intro k hk
    go_wp2_with fail
    refine (says_calls (w := W3.drew) hp3).mono ?_
    rintro e w1 ⟨rfl, rfl⟩
    have hp4 := Pull.set9 (w := W3.drew) hp3 (.slice none 0 0)
    have hB4 := (bdrew1 hB3).setCell (p := ⟨G, 9, none⟩) hG (.slice none 0 0)
    have ho4 := own_setCell (w := W3.drew) ho3 (p := ⟨G, 9, none⟩) hne (.slice none 0 0)
    have hr4 := own_setCell (w := W3.drew) hr3 (p := ⟨G, 9, none⟩) (by simp [Value.ownBlock]; omega) (.slice none 0 0)
    have hZ4 := (Below.heap_setCell W3.drew ⟨G, 9, none⟩ (.slice none 0 0) W2.heap.size (by show W2.heap.size ≠ G; omega)).trans HZ.out
    have c94 : (W3.drew.setCell ⟨G, 9, none⟩ (.slice none 0 0)).cell? ⟨W2.heap.size, 9, none⟩ = some (.slice (some ⟨g4, 0, none⟩) 1 cap4) := cell_of_row _ _ _ _ _ _ hZ4
    clear hp3 hB3 ho3 hr3 HZ c9
    generalize (W3.drew.setCell ⟨G, 9, none⟩ (.slice none 0 0)) = W4 at *
    refine hk _ _ ⟨fun _ => c94, ?_⟩
    clear hk k
    try simp only [Act.put, List.set_cons_zero, List.set_cons_succ, List.setIfInBounds_toArray]
    repeat (first
      | (apply held_det
         · rfl
         · first | rfl | (simp [Region.wanted, yielded, *]; done)
         · (intro w' hS; obtain hS0 := hS; go_simp; first | done | exact rfl)
         simp only [Act.put, List.set_cons_zero, List.set_cons_succ, List.setIfInBounds_toArray])
      | (apply held_skip
         · rfl
         · first | rfl | (simp [Region.wanted, yielded, *]; done)
         simp only [Act.put, List.set_cons_zero, List.set_cons_succ, List.setIfInBounds_toArray]))
    apply held_nd
    · rfl
    · rfl
    intro k hk
    go_wp2_with fail
    refine (sameAll_one a b s g2 g4 cap2 cap4 W4 (range_own ho4).1 (range_own hr4).1 (range_own ho4).2 (range_own hr4).2).mono ?_
    rintro e W5 ⟨rfl, hb5⟩
    have hp5 := hp4.below hb5
    have c95 := ((bcell hb5).1 _ _ (lt_of_blk hZ4)).trans c94
    have hZ5 := (hb5.block _ (lt_of_blk hZ4)).trans hZ4
    have hB5 := bthen' hB4 hb5
    clear hp4 c94 hZ4 hB4 hb5 ho4 hr4
    refine hk _ _ ⟨fun _ => c95, ?_⟩
    clear hk k
    try simp only [Act.put, List.set_cons_zero, List.set_cons_succ, List.setIfInBounds_toArray]
    repeat (first
      | (apply held_det
         · rfl
         · first | rfl | (simp [Region.wanted, yielded, *]; done)
         · (intro w' hS; obtain hS0 := hS; go_simp; first | done | exact rfl)
         simp only [Act.put, List.set_cons_zero, List.set_cons_succ, List.setIfInBounds_toArray])
      | (apply held_skip
         · rfl
         · first | rfl | (simp [Region.wanted, yielded, *]; done)
         simp only [Act.put, List.set_cons_zero, List.set_cons_succ, List.setIfInBounds_toArray]))
    apply held_nd
    · rfl
    · rfl
    intro k hk
    go_wp2_with fail
    refine (asks_yes hp5).mono ?_
    rintro e w1 ⟨rfl, rfl⟩
    refine hk _ _ ⟨fun _ => c95, ?_⟩
    clear hk k
    try simp only [Act.put, List.set_cons_zero, List.set_cons_succ, List.setIfInBounds_toArray]
    repeat (first
      | (apply held_det
         · rfl
         · first | rfl | (simp [Region.wanted, yielded, *]; done)
         · (intro w' hS; obtain hS0 := hS; go_simp; first | done | exact rfl)
         simp only [Act.put, List.set_cons_zero, List.set_cons_succ, List.setIfInBounds_toArray])
      | (apply held_skip
         · rfl
         · first | rfl | (simp [Region.wanted, yielded, *]; done)
         simp only [Act.put, List.set_cons_zero, List.set_cons_succ, List.setIfInBounds_toArray]))
    apply held_nd
    · rfl
    · rfl
    intro k hk
    go_wp2_with fail
    refine (awake_calls _).mono ?_
    rintro e W6 ⟨rfl, hb6⟩
    refine hk _ _ ⟨fun _ => ((bcell hb6).1 _ _ (lt_of_blk hZ5)).trans c95, ?_⟩
    clear hk k
    try simp only [Act.put, List.set_cons_zero, List.set_cons_succ, List.setIfInBounds_toArray]
    repeat (first
      | (apply held_det
         · rfl
         · first | rfl | (simp [Region.wanted, yielded, *]; done)
         · (intro w' hS; obtain hS0 := hS; go_simp; first | done | exact rfl)
         simp only [Act.put, List.set_cons_zero, List.set_cons_succ, List.setIfInBounds_toArray])
      | (apply held_skip
         · rfl
         · first | rfl | (simp [Region.wanted, yielded, *]; done)
         simp only [Act.put, List.set_cons_zero, List.set_cons_succ, List.setIfInBounds_toArray]))
    refine held_nil ?_
    go_wp2_with fail
    go_ret
    exact ⟨rfl, bthen' hB5 hb6⟩
