/- Walks for PullNew: a new pull. -/
import Derived.Test.YtkikhoppbchheaaDoorPnF
namespace Go.Proofs.YtkikhoppbchheaaDoor
open Go Go.RowKit
theorem wait0 (w : World) : Calls Tryd.prog 21 #[.int .i64 0] w fun e w' => e = .returned (.int .i64 2) ∧ w = w' := wait_calls 0 (by omega) w
set_option maxHeartbeats 400000 in
theorem start_calls (w : World) : Calls Tryd.prog 10 #[] w fun e w' => e = .returned (.agg #[.int .i64 1, .int .i64 0, .int .i64 2]) ∧ Below w.heap.size w w' := by
  go_enter Tryd.func10, Tryd.ntmps10
  go_wp2_with (go_at_call 21; refine (wait0 _).mono ?_; rintro e w1 ⟨rfl, rfl⟩)
  refine bodyPost_ret (results_cell_row rfl _ _ w.heap.size 51 #[.int .i64 1, .int .i64 0, .int .i64 2] (0, 0) _ rfl (heap_alloc_last w _) Tryd.underlying51 rfl (by kernel_rfl)) rfl ⟨rfl, (by repeat (first | exact Below.refl _ _ | assumption | refine bdrew1 ?_ | refine bdrew _ ?_ | refine ball ?_ _ | (apply bset; (show _ ≤ _; omega)) | (apply bthen'; rotate_left; assumption)))⟩
theorem bld55 (a b s : Int) : ∀ w, (Instr.build 55 #[(0, .int .i64 a), (1, .int .i64 b), (2, .int .i64 s), (3, .agg #[.pointer none, .slice none 0 0]), (5, .agg #[.int .i64 1, .int .i64 0, .int .i64 2])]).run Tryd.prog w = .ok (.agg (pullC a b s 0 1 0 2 (.slice none 0 0))) w := fun _ => by kernel_rfl
theorem own_nil (W : World) (base e sz : Nat) : W.ownsRow base e sz (.slice none 0 0) 0 [] := ⟨by simp, .inl ⟨rfl, rfl⟩⟩
set_option maxRecDepth 100000 in
set_option maxHeartbeats 400000 in
theorem new_calls (a b s : Int) (w : World) :
    Calls Tryd.prog 4 #[.int .i64 a, .int .i64 b, .int .i64 s, .agg #[.pointer none, .slice none 0 0]] w fun e w' => Below w.heap.size w w' ∧
      ((chkF a b s ≠ 0 ∧ e = .returned (.pointer none)) ∨
       (chkF a b s = 0 ∧ ∃ G v, e = .returned (.pointer (some ⟨G, 0, none⟩)) ∧ w.heap.size ≤ G ∧ Pull w' G a b s 0 1 0 2 v ∧ w'.ownsRow w.heap.size 38 41 v 1 (askM 1 a b s).toList ∧ v.ownBlock ≠ some G)) := by
  have hb55 := bld55
  go_enter Tryd.func4, Tryd.ntmps4
  go_wp2_with fail
  refine wp_region_seq (fun w' => w'.cell? ⟨w.heap.size, 0, none⟩ = some (.pointer none) ∧ w'.cell? ⟨w.heap.size, 1, none⟩ = some (.slice none 0 0)) [(0, true), (1, true), (2, true), (3, true), (4, false), (5, true), (6, false), (7, true)] 8 (by kernel_rfl) (by kernel_rfl) ⟨by go_simp, by go_simp⟩ ?_
  repeat (first
    | (apply held_det
       · rfl
       · first | rfl | (simp [Region.wanted, yielded, *]; done)
       · (intro w' hS; obtain ⟨hS0, hS1⟩ := hS; go_simp; first | done | exact rfl)
       simp only [Act.put, List.set_cons_zero, List.set_cons_succ, List.setIfInBounds_toArray])
    | (apply held_skip
       · rfl
       · first | rfl | (simp [Region.wanted, yielded, *]; done)
       simp only [Act.put, List.set_cons_zero, List.set_cons_succ, List.setIfInBounds_toArray]))
  apply held_nd
  · rfl
  · rfl
  intro k hk
  go_wp2_with fail
  refine (start_calls _).mono ?_
  rintro e W1 ⟨rfl, hb1⟩
  have hB1 : Below w.heap.size w W1 := bthen' (by repeat (first | exact Below.refl _ _ | assumption | refine bdrew1 ?_ | refine bdrew _ ?_ | refine ball ?_ _ | (apply bset; (show _ ≤ _; omega)) | (apply bthen'; rotate_left; assumption))) hb1
  have hs1 := hb1.size
  have hc1 := (bcell hb1).1
  refine hk _ _ ⟨fun _ => ⟨(hc1 _ _ (by simp)).trans (by go_simp), (hc1 _ _ (by simp)).trans (by go_simp)⟩, ?_⟩
  clear hk k
  try simp only [Act.put, List.set_cons_zero, List.set_cons_succ, List.setIfInBounds_toArray]
  repeat (first
    | (apply held_det
       · rfl
       · first | rfl | (simp [Region.wanted, yielded, *]; done)
       · (intro w' hS; obtain ⟨hS0, hS1⟩ := hS; go_simp; first | done | exact rfl)
       simp only [Act.put, List.set_cons_zero, List.set_cons_succ, List.setIfInBounds_toArray])
    | (apply held_skip
       · rfl
       · first | rfl | (simp [Region.wanted, yielded, *]; done)
       simp only [Act.put, List.set_cons_zero, List.set_cons_succ, List.setIfInBounds_toArray]))
  apply held_nd
  · rfl
  · rfl
  intro k hk
  go_wp2_with fail
  have hP : Pull (W1.alloc (Obj.cells (pullC a b s 0 1 0 2 (.slice none 0 0)) 55)) W1.heap.size a b s 0 1 0 2 (.slice none 0 0) := heap_alloc_last W1 _
  have hG : w.heap.size ≤ W1.heap.size := hB1.size
  have hB2 : Below w.heap.size w (W1.alloc (Obj.cells (pullC a b s 0 1 0 2 (.slice none 0 0)) 55)) := ball hB1 _
  have hS2 : (W1.alloc (Obj.cells (pullC a b s 0 1 0 2 (.slice none 0 0)) 55)).cell? ⟨w.heap.size, 0, none⟩ = some (.pointer none) ∧ (W1.alloc (Obj.cells (pullC a b s 0 1 0 2 (.slice none 0 0)) 55)).cell? ⟨w.heap.size, 1, none⟩ = some (.slice none 0 0) := by
    have h1 : w.heap.size < W1.heap.size := by simp at hs1; omega
    exact ⟨(World.cell?_alloc_lt W1 _ ⟨w.heap.size, 0, none⟩ h1).trans ((hc1 _ _ (by simp)).trans (by go_simp)), (World.cell?_alloc_lt W1 _ ⟨w.heap.size, 1, none⟩ h1).trans ((hc1 _ _ (by simp)).trans (by go_simp))⟩
  refine ⟨fun _ => hS2, ?_⟩
  change heldSeq _ _ _ _ _ _ _ (W1.alloc (Obj.cells (pullC a b s 0 1 0 2 (.slice none 0 0)) 55))
  obtain ⟨G, hGe⟩ : ∃ G, G = W1.heap.size := ⟨_, rfl⟩
  rw [← hGe] at hP hG ⊢
  generalize W1.alloc (Obj.cells (pullC a b s 0 1 0 2 (.slice none 0 0)) 55) = W2 at *
  clear hc1 hb1 hs1 hGe hS2
  repeat (first
    | (apply held_det
       · rfl
       · first | rfl | (simp [Region.wanted, yielded, *]; done)
       · (intro w' hS; obtain ⟨hS0, hS1⟩ := hS; go_simp; first | done | exact rfl)
       simp only [Act.put, List.set_cons_zero, List.set_cons_succ, List.setIfInBounds_toArray])
    | (apply held_skip
       · rfl
       · first | rfl | (simp [Region.wanted, yielded, *]; done)
       simp only [Act.put, List.set_cons_zero, List.set_cons_succ, List.setIfInBounds_toArray]))
  refine held_nil ?_
  go_wp2_with fail
  refine (ask_calls G a b s _ hP.c0 hP.c1 hP.c2 hP.lt).mono ?_
  rintro e W3 ⟨rfl, hb3⟩
  have hB3 : Below w.heap.size w W3 := bthen' hB2 hb3
  have hP3 := hP.below hb3
  clear hb3 hP hB2
  go_wp2_with fail
  refine (mcheck_calls a b s _).mono ?_
  rintro e W4 ⟨rfl, hb4⟩
  have hB4 : Below w.heap.size w W4 := bthen' hB3 hb4
  have hP4 := hP3.below hb4
  clear hb4 hP3 hB3
  by_cases hc : chkF a b s = 0
  · have hc' : (chkF a b s != 0) = false := by simpa using hc
    have HC := Lib.hid hc
    clear hc
    go_wp2_with fail
    refine (say_calls G w.heap.size 0 a b s 1 0 2 _ [] W4 hP4 (own_nil ..) hG (by omega) (by simp [Value.ownBlock])).mono ?_
    rintro e W5 ⟨rfl, v5, hP5, hown5, hne5, hB5⟩
    go_wp2_with fail
    go_ret
    exact ⟨hB4.trans hB5, .inr ⟨HC.out, G, v5, rfl, hG, hP5, hown5, hne5⟩⟩
  · have hc' : (chkF a b s != 0) = true := by simpa using hc
    go_wp2_with fail
    go_ret
    exact ⟨hB4, .inl ⟨hc, rfl⟩⟩
