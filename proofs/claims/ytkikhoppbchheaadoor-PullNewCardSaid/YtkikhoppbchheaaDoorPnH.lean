/- Walks for PullNew: what a pull tells, and its timer. -/
import Derived.Test.YtkikhoppbchheaaDoorPnG
import Derived.IntWalk
namespace Go.Proofs.YtkikhoppbchheaaDoor
open Go Go.RowKit
section
variable {w : World} {g : Nat} {a b s d t0 t1 t2 : Int} {v : Value}
set_option maxHeartbeats 400000 in
theorem says_calls (h : Pull w g a b s d t0 t1 t2 v) : Calls Tryd.prog 7 #[.pointer (some ⟨g, 0, none⟩)] w fun e w' => e = .returned v ∧ w.setCell ⟨g, 9, none⟩ (.slice none 0 0) = w' := by
  have c9 := h.c9
  have f9 := h.fr 9
  go_enter Tryd.func7, Tryd.ntmps7
  go_wp2_with fail
  go_ret
  exact ⟨rfl, rfl⟩
set_option maxHeartbeats 400000 in
theorem says_nil (w : World) : Calls Tryd.prog 7 #[.pointer none] w fun e w' => e = .returned (.slice none 0 0) ∧ w = w' := by
  go_enter Tryd.func7, Tryd.ntmps7
  go_wp2_with fail
  go_ret
  exact ⟨rfl, rfl⟩
set_option maxHeartbeats 400000 in
theorem asks_yes (h : Pull w g a b s 0 t0 t1 t2 v) : Calls Tryd.prog 8 #[.pointer (some ⟨g, 0, none⟩)] w fun e w' => e = .returned (.bool true) ∧ w = w' := by
  have c5 := h.c5
  go_enter Tryd.func8, Tryd.ntmps8
  go_wp2_with fail
  go_ret
  exact ⟨rfl, rfl⟩
set_option maxHeartbeats 400000 in
theorem asks_no (h : Pull w g a b s 3 t0 t1 t2 v) : Calls Tryd.prog 8 #[.pointer (some ⟨g, 0, none⟩)] w fun e w' => e = .returned (.bool false) ∧ w = w' := by
  have c5 := h.c5
  go_enter Tryd.func8, Tryd.ntmps8
  go_wp2_with fail
  go_ret
  exact ⟨rfl, rfl⟩
set_option maxHeartbeats 400000 in
theorem asks_nil (w : World) : Calls Tryd.prog 8 #[.pointer none] w fun e w' => e = .returned (.bool false) ∧ w = w' := by
  go_enter Tryd.func8, Tryd.ntmps8
  go_wp2_with fail
  go_ret
  exact ⟨rfl, rfl⟩
set_option maxHeartbeats 400000 in
theorem failed_yes (h : Pull w g a b s 3 t0 t1 t2 v) : Calls Tryd.prog 20 #[.pointer (some ⟨g, 0, none⟩)] w fun e w' => e = .returned (.bool true) ∧ w = w' := by
  have c5 := h.c5
  go_enter Tryd.func20, Tryd.ntmps20
  go_wp2_with fail
  go_ret
  exact ⟨rfl, rfl⟩
set_option maxHeartbeats 400000 in
theorem failed_no (h : Pull w g a b s 0 t0 t1 t2 v) : Calls Tryd.prog 20 #[.pointer (some ⟨g, 0, none⟩)] w fun e w' => e = .returned (.bool false) ∧ w = w' := by
  have c5 := h.c5
  go_enter Tryd.func20, Tryd.ntmps20
  go_wp2_with fail
  go_ret
  exact ⟨rfl, rfl⟩
end
def tim (t0 t1 t2 : Int) : Value := .agg #[.int .i64 t0, .int .i64 t1, .int .i64 t2]
set_option maxHeartbeats 400000 in
theorem ttick_more (t1 t2 : Int) (w : World) (h : 1 < t2) (h2 : t2 ≤ 64) : Calls Tryd.prog 32 #[.agg #[.int .i64 1, .int .i64 t1, .int .i64 t2], .int .i64 1] w fun e w' => e = .returned (.tuple #[.agg #[.int .i64 1, .int .i64 t1, .int .i64 (t2 - 1)], .bool false]) ∧ Below w.heap.size w w' := by
  go_enter Tryd.func32, Tryd.ntmps32
  go_wp2_with fail
  refine bodyPost_ret (results_ct rfl _ _ (w.heap.size + 1) 51 #[.int .i64 1, .int .i64 t1, .int .i64 (t2 - 1)] (0, 0) _ rfl (heap_alloc2_new w _ _) Tryd.underlying51 rfl (by kernel_rfl)) rfl ⟨rfl, (by repeat (first | exact Below.refl _ _ | assumption | refine bdrew1 ?_ | refine bdrew _ ?_ | refine ball ?_ _ | (apply bset; (show _ ≤ _; omega)) | (apply bthen'; rotate_left; assumption)))⟩
set_option maxHeartbeats 400000 in
theorem ttick_rings (t1 : Int) (w : World) : Calls Tryd.prog 32 #[.agg #[.int .i64 1, .int .i64 t1, .int .i64 1], .int .i64 1] w fun e w' => e = .returned (.tuple #[.agg #[.int .i64 2, .int .i64 t1, .int .i64 0], .bool true]) ∧ Below w.heap.size w w' := by
  go_enter Tryd.func32, Tryd.ntmps32
  go_wp2_with fail
  refine bodyPost_ret (results_ct rfl _ _ (w.heap.size + 1) 51 #[.int .i64 2, .int .i64 t1, .int .i64 0] (0, 0) _ rfl (heap_alloc2_new w _ _) Tryd.underlying51 rfl (by kernel_rfl)) rfl ⟨rfl, (by repeat (first | exact Below.refl _ _ | assumption | refine bdrew1 ?_ | refine bdrew _ ?_ | refine ball ?_ _ | (apply bset; (show _ ≤ _; omega)) | (apply bthen'; rotate_left; assumption)))⟩
set_option maxHeartbeats 400000 in
theorem on_calls (t1 t2 : Int) (w : World) : Calls Tryd.prog 39 #[.agg #[.int .i64 2, .int .i64 t1, .int .i64 t2]] w fun e w' => e = .returned (.bool true) ∧ Below w.heap.size w w' := by
  go_enter Tryd.func39, Tryd.ntmps39
  go_wp2_with fail
  go_ret
  exact ⟨rfl, (by repeat (first | exact Below.refl _ _ | assumption | refine bdrew1 ?_ | refine bdrew _ ?_ | refine ball ?_ _ | (apply bset; (show _ ≤ _; omega)) | (apply bthen'; rotate_left; assumption)))⟩

set_option maxHeartbeats 400000 in
theorem spent_calls (t1 t2 : Int) (w : World) : Calls Tryd.prog 33 #[.agg #[.int .i64 2, .int .i64 t1, .int .i64 t2]] w fun e w' => e = .returned (.bool (decide (4 ≤ t1))) ∧ Below w.heap.size w w' := by
  go_enter Tryd.func33, Tryd.ntmps33
  go_wp2_with fail
  refine (on_calls t1 t2 _).mono ?_
  rintro e W1 ⟨rfl, hb1⟩
  have hc1 := (bcell hb1).1
  go_wp2_with fail
  go_ret
  exact ⟨rfl, (by repeat (first | exact Below.refl _ _ | assumption | refine bdrew1 ?_ | refine bdrew _ ?_ | refine ball ?_ _ | (apply bset; (show _ ≤ _; omega)) | (apply bthen'; rotate_left; assumption)))⟩
set_option maxRecDepth 100000 in
set_option maxHeartbeats 400000 in
theorem again_calls (n : Nat) (hn2 : n ≤ 10) (w : World) : Calls Tryd.prog 34 #[.agg #[.int .i64 2, .int .i64 n, .int .i64 0]] w fun e w' => e = .returned (.agg #[.int .i64 1, .int .i64 (n + 1), .int .i64 (waitN (n + 1) 2)]) ∧ Below w.heap.size w w' := by
  go_enter Tryd.func34, Tryd.ntmps34
  go_wp2_with fail
  refine (on_calls n 0 _).mono ?_
  rintro e W1 ⟨rfl, hb1⟩
  have hB1 : Below w.heap.size w W1 := bthen' (by repeat (first | exact Below.refl _ _ | assumption | refine bdrew1 ?_ | refine bdrew _ ?_ | refine ball ?_ _ | (apply bset; (show _ ≤ _; omega)) | (apply bthen'; rotate_left; assumption))) hb1
  have hc1 := (bcell hb1).1
  have c1 : W1.cell? ⟨w.heap.size, 1, none⟩ = some (.int .i64 n) := (hc1 _ _ (by simp; omega)).trans (by go_simp)
  have hrow : W1.heap[w.heap.size + 1]? = some (.cells #[.int .i64 0, .int .i64 0, .int .i64 0] 51) := (hb1.block _ (by simp)).trans (heap_alloc2_new w _ _)
  have hlt := hb1.size
  have HR := Lib.hid hrow
  clear hc1 hb1 hrow
  go_wp2_with fail
  have hwr : IntKind.i64.wrap ((n : Int) + 1) = (n : Int) + 1 := IntWalk.i64_in _ (by omega)
  refine wp_region_seq (fun w' => w'.cell? ⟨w.heap.size, 1, none⟩ = some (.int .i64 n)) [(0, true), (1, true), (2, true), (3, true), (4, true), (5, true), (6, false), (7, true), (8, false)] 8 (by kernel_rfl) (by kernel_rfl) c1 ?_
  repeat (first
    | (apply held_det
       · rfl
       · first | rfl | (simp [Region.wanted, yielded, *]; done)
       · (intro w' hS; obtain hS := hS; go_simp; first | done | exact rfl)
       simp only [Act.put, List.set_cons_zero, List.set_cons_succ, List.setIfInBounds_toArray])
    | (apply held_skip
       · rfl
       · first | rfl | (simp [Region.wanted, yielded, *]; done)
       simp only [Act.put, List.set_cons_zero, List.set_cons_succ, List.setIfInBounds_toArray]))
  apply held_nd
  · rfl
  · rfl
  intro k hk
  go_wp2_with fail
  refine (wait_calls (n + 1) (by omega) _).mono ?_
  rintro e w4 ⟨rfl, rfl⟩
  refine hk _ _ ⟨fun _ => c1, ?_⟩
  clear hk k
  try simp only [Act.put, List.set_cons_zero, List.set_cons_succ, List.setIfInBounds_toArray]
  repeat (first
    | (apply held_det
       · rfl
       · first | rfl | (simp [Region.wanted, yielded, *]; done)
       · (intro w' hS; obtain hS := hS; go_simp; first | done | exact rfl)
       simp only [Act.put, List.set_cons_zero, List.set_cons_succ, List.setIfInBounds_toArray])
    | (apply held_skip
       · rfl
       · first | rfl | (simp [Region.wanted, yielded, *]; done)
       simp only [Act.put, List.set_cons_zero, List.set_cons_succ, List.setIfInBounds_toArray]))
  apply held_nd
  · rfl
  · rfl
  intro k hk
  refine wp_store_blk 51 _ _ rfl (w.heap.size + 1) rfl #[.int .i64 1, .int .i64 (n + 1), .int .i64 (waitN (n + 1) 2)] rfl 51 _ (HR.out : W1.drew.heap[w.heap.size + 1]? = _) (by kernel_rfl) rfl (by simp [Value.oneCell']) ?_
  refine hk _ _ ⟨fun h => absurd rfl h, held_nil ?_⟩
  go_wp2_with fail
  refine bodyPost_ret (results_cell_row rfl _ _ (w.heap.size + 1) 51 #[.int .i64 1, .int .i64 (n + 1), .int .i64 (waitN (n + 1) 2)] (0, 0) _ rfl (heap_setRow_same (w := W1.drew) HR.out _) Tryd.underlying51 rfl (by kernel_rfl)) rfl ⟨rfl, ?_⟩
  exact below_setRow (bdrew1 hB1) (by omega) _
