/- Walks for PullNew: the document's pull. -/
import Derived.Test.YtkikhoppbchheaaDoorPnI
namespace Go.Proofs.YtkikhoppbchheaaDoor
open Go Go.RowKit
/-- The document's pull that asks: its cells. -/
def refC (a b s : Int) (on : Bool) (t2 : Int) (v : Value) : Array Value := #[.int .i64 a, .int .i64 b, .int .i64 s, .slice none 0 0, .slice none 0 0, .int .i64 0, .bool on, .int .i64 0, .int .i64 t2, v,
  .int .i64 0, .int .i64 0, .int .i64 0, .int .i64 0, .bool false, .string ⟨#[]⟩, .int .u8 0, .int .u8 0, .int .u8 0, .int .u8 0, .int .u8 0, .int .u8 0, .int .u8 0, .int .u8 0, .int .u8 0, .int .u8 0, .int .u8 0, .int .u8 0, .int .u8 0, .int .u8 0, .int .u8 0, .int .u8 0, .int .u8 0, .int .u8 0, .int .u8 0, .int .u8 0, .int .u8 0, .int .u8 0, .int .u8 0, .int .u8 0, .int .u8 0, .int .u8 0, .int .u8 0, .int .u8 0, .int .u8 0, .int .u8 0, .int .u8 0, .int .u8 0, .slice none 0 0, .slice none 0 0, .string ⟨#[]⟩, .slice none 0 0, .int .u8 0, .int .u8 0, .int .u8 0, .int .u8 0, .int .u8 0, .int .u8 0, .int .u8 0, .int .u8 0, .int .u8 0, .int .u8 0, .int .u8 0, .int .u8 0, .int .u8 0, .int .u8 0, .int .u8 0, .int .u8 0, .int .u8 0, .int .u8 0, .int .u8 0, .int .u8 0, .int .u8 0, .int .u8 0, .int .u8 0, .int .u8 0, .int .u8 0, .int .u8 0, .int .u8 0, .int .u8 0, .int .u8 0, .int .u8 0, .int .u8 0, .int .u8 0, .slice none 0 0, .slice none 0 0, .int .i64 0, .slice none 0 0, .slice none 0 0]
theorem info43 : (Tryd.prog.info? 43).map (fun i => (i.zero, i.size)) = some (some (.agg (refC 0 0 0 false 0 (.slice none 0 0))), 89) := by kernel_rfl
theorem refC_one (a b s : Int) (on : Bool) (t2 : Int) (A : Option Addr) (n c : Nat) : (refC a b s on t2 (.slice A n c)).all (·.oneCell') = true := by simp [refC, Value.oneCell']
set_option maxHeartbeats 400000 in
theorem rwait0 (w : World) : Calls Tryd.prog 26 #[.int .i64 0] w fun e w' => e = .returned (.int .i64 2) ∧ w = w' := by
  go_enter Tryd.func26, Tryd.ntmps26
  go_wp2
  go_rounds 1
  go_ret
  exact ⟨rfl, rfl⟩
set_option maxHeartbeats 400000 in
theorem rstart_calls (w : World) : Calls Tryd.prog 14 #[] w fun e w' => e = .returned (.agg #[.bool true, .int .i64 0, .int .i64 2]) ∧ Below w.heap.size w w' := by
  go_enter Tryd.func14, Tryd.ntmps14
  go_wp2_with (go_at_call 26; refine (rwait0 _).mono ?_; rintro e w1 ⟨rfl, rfl⟩)
  refine bodyPost_ret (results_cell_row rfl _ _ w.heap.size 32 #[.bool true, .int .i64 0, .int .i64 2] (0, 0) _ rfl (heap_alloc_last w _) Tryd.underlying32 rfl (by kernel_rfl)) rfl ⟨rfl, (by repeat (first | exact Below.refl _ _ | assumption | refine bdrew1 ?_ | refine bdrew _ ?_ | refine ball ?_ _ | (apply bset; (show _ ≤ _; omega)) | (apply bthen'; rotate_left; assumption)))⟩
set_option maxRecDepth 100000 in
set_option maxHeartbeats 400000 in
theorem rask_calls (a b s : Int) (on : Bool) (t2 : Int) (v : Value) (w : World) : Calls Tryd.prog 16 #[.agg (refC a b s on t2 v)] w fun e w' => e = .returned (.agg (askM 1 a b s)) ∧ Below w.heap.size w w' := by
  obtain ⟨hz, hs⟩ := zero_of_info info38
  have HS := Lib.hid hs
  have hh := heap_alloc_last w (.cells (refC a b s on t2 v) 43)
  have c0 : (w.alloc (.cells (refC a b s on t2 v) 43)).cell? ⟨w.heap.size, 0, none⟩ = some (.int .i64 a) := cell_of_row _ _ _ _ _ _ hh
  have c1 : (w.alloc (.cells (refC a b s on t2 v) 43)).cell? ⟨w.heap.size, 1, none⟩ = some (.int .i64 b) := cell_of_row _ _ _ _ _ _ hh
  have c2 : (w.alloc (.cells (refC a b s on t2 v) 43)).cell? ⟨w.heap.size, 2, none⟩ = some (.int .i64 s) := cell_of_row _ _ _ _ _ _ hh
  have HH2 := Lib.hid (heap_alloc2_new w (.cells (refC a b s on t2 v) 43) (.cells (askM 0 0 0 0) 38))
  have d0 : (refC a b s on t2 v)[0]? = some (.int .i64 a) := rfl
  have d1 : (refC a b s on t2 v)[1]? = some (.int .i64 b) := rfl
  have d2 : (refC a b s on t2 v)[2]? = some (.int .i64 s) := rfl
  clear hh hs
  go_enter Tryd.func16, Tryd.ntmps16
  go_wp2_with (first | (refine wpList_build rfl 38 _ rfl #[(0, .int .i64 1), (1, .int .i64 a), (2, .int .i64 b), (3, .int .i64 s)] (by simp [Act.eval]) _ _ (build_ask 1 a b s _) ?_) | (refine wpList_store_blk rfl 38 _ _ rfl (w.heap.size + 1) rfl (askM 1 a b s) rfl 38 (askM 0 0 0 0) HH2.out HS.out rfl (askM_one ..) ?_; rw [setRow_alloc2]))
  refine bodyPost_ret (results_cell_row rfl _ _ (w.heap.size + 1) 38 (askM 1 a b s) (0, 0) _ rfl (heap_alloc2_new w _ _) Tryd.underlying38 rfl HS.out) rfl ⟨rfl, (by repeat (first | exact Below.refl _ _ | assumption | refine bdrew1 ?_ | refine bdrew _ ?_ | refine ball ?_ _ | (apply bset; (show _ ≤ _; omega)) | (apply bthen'; rotate_left; assumption)))⟩
