/- Walks for PullNew: the same message. -/
import Derived.Test.YtkikhoppbchheaaDoorPnL
namespace Go.Proofs.YtkikhoppbchheaaDoor
open Go Go.RowKit
set_option maxHeartbeats 400000 in
theorem same5_nil (w : World) : Calls Tryd.prog 30 #[.slice none 0 0, .slice none 0 0] w fun e w' => e = .returned (.bool true) ∧ w = w' := by
  go_enter Tryd.func30, Tryd.ntmps30
  go_wp2_with fail
  go_rounds 1
  go_ret
  exact ⟨rfl, rfl⟩
set_option maxHeartbeats 400000 in
theorem same8_nil (w : World) : Calls Tryd.prog 31 #[.slice none 0 0, .slice none 0 0] w fun e w' => e = .returned (.bool true) ∧ w = w' := by
  go_enter Tryd.func31, Tryd.ntmps31
  go_wp2_with fail
  go_rounds 1
  go_ret
  exact ⟨rfl, rfl⟩
theorem wpList_wanted {P : Program} {ops : Array Oper} {rest : List Oper} {o : Oper} {a : Act} {w : World} {Q : Exit → Act → World → Prop} (hw : Region.wanted o (yielded ops a.tmps) = true)
    (h : ∀ K : Act → World → Prop, (∀ a w, wpList P ops Q rest a w → K a w) → o.wp P a w K Q) : wpList P ops Q (o :: rest) a w := wpList_step fun K hK => by rw [if_pos hw]; exact h K hK
theorem size35 : (Tryd.prog.info? 35).map (·.size) = some zero32.length := by kernel_rfl
theorem eql35z : ∀ w, (Op.equalIn 10000 35 (.agg zero32.toArray) (.agg zero32.toArray)).run Tryd.prog w = .ok true w := fun _ => by kernel_rfl
set_option maxRecDepth 100000 in
set_option maxHeartbeats 800000 in
theorem same12 (a b s : Int) (w : World) : Calls Tryd.prog 18 #[.agg (askM 1 a b s), .agg (askM 1 a b s)] w fun e w' => e = .returned (.bool true) ∧ Below w.heap.size w w' := by
  have HW := Lib.hid (heap_alloc2_new w (.cells (askM 1 a b s) 38) (.cells (askM 1 a b s) 38))
  have HV := Lib.hid ((heap_alloc_old (w.alloc (.cells (askM 1 a b s) 38)) (.cells (askM 1 a b s) 38) (by simp)).trans (heap_alloc_last w (.cells (askM 1 a b s) 38)))
  have c0 : ((w.alloc (.cells (askM 1 a b s) 38)).alloc (.cells (askM 1 a b s) 38)).cell? ⟨w.heap.size, 0, none⟩ = some (.int .i64 1) := cell_of_row _ _ _ _ _ _ HV.out
  have c1 : ((w.alloc (.cells (askM 1 a b s) 38)).alloc (.cells (askM 1 a b s) 38)).cell? ⟨w.heap.size, 1, none⟩ = some (.int .i64 a) := cell_of_row _ _ _ _ _ _ HV.out
  have c2 : ((w.alloc (.cells (askM 1 a b s) 38)).alloc (.cells (askM 1 a b s) 38)).cell? ⟨w.heap.size, 2, none⟩ = some (.int .i64 b) := cell_of_row _ _ _ _ _ _ HV.out
  have c3 : ((w.alloc (.cells (askM 1 a b s) 38)).alloc (.cells (askM 1 a b s) 38)).cell? ⟨w.heap.size, 3, none⟩ = some (.int .i64 s) := cell_of_row _ _ _ _ _ _ HV.out
  have c4 : ((w.alloc (.cells (askM 1 a b s) 38)).alloc (.cells (askM 1 a b s) 38)).cell? ⟨w.heap.size, 4, none⟩ = some (.bool false) := cell_of_row _ _ _ _ _ _ HV.out
  have c5 : ((w.alloc (.cells (askM 1 a b s) 38)).alloc (.cells (askM 1 a b s) 38)).cell? ⟨w.heap.size, 5, none⟩ = some (.string ⟨#[]⟩) := cell_of_row _ _ _ _ _ _ HV.out
  have c38 : ((w.alloc (.cells (askM 1 a b s) 38)).alloc (.cells (askM 1 a b s) 38)).cell? ⟨w.heap.size, 38, none⟩ = some (.slice none 0 0) := cell_of_row _ _ _ _ _ _ HV.out
  have c39 : ((w.alloc (.cells (askM 1 a b s) 38)).alloc (.cells (askM 1 a b s) 38)).cell? ⟨w.heap.size, 39, none⟩ = some (.slice none 0 0) := cell_of_row _ _ _ _ _ _ HV.out
  have c40 : ((w.alloc (.cells (askM 1 a b s) 38)).alloc (.cells (askM 1 a b s) 38)).cell? ⟨w.heap.size, 40, none⟩ = some (.string ⟨#[]⟩) := cell_of_row _ _ _ _ _ _ HV.out
  have d0 : ((w.alloc (.cells (askM 1 a b s) 38)).alloc (.cells (askM 1 a b s) 38)).cell? ⟨w.heap.size + 1, 0, none⟩ = some (.int .i64 1) := cell_of_row _ _ _ _ _ _ HW.out
  have d1 : ((w.alloc (.cells (askM 1 a b s) 38)).alloc (.cells (askM 1 a b s) 38)).cell? ⟨w.heap.size + 1, 1, none⟩ = some (.int .i64 a) := cell_of_row _ _ _ _ _ _ HW.out
  have d2 : ((w.alloc (.cells (askM 1 a b s) 38)).alloc (.cells (askM 1 a b s) 38)).cell? ⟨w.heap.size + 1, 2, none⟩ = some (.int .i64 b) := cell_of_row _ _ _ _ _ _ HW.out
  have d3 : ((w.alloc (.cells (askM 1 a b s) 38)).alloc (.cells (askM 1 a b s) 38)).cell? ⟨w.heap.size + 1, 3, none⟩ = some (.int .i64 s) := cell_of_row _ _ _ _ _ _ HW.out
  have d4 : ((w.alloc (.cells (askM 1 a b s) 38)).alloc (.cells (askM 1 a b s) 38)).cell? ⟨w.heap.size + 1, 4, none⟩ = some (.bool false) := cell_of_row _ _ _ _ _ _ HW.out
  have d5 : ((w.alloc (.cells (askM 1 a b s) 38)).alloc (.cells (askM 1 a b s) 38)).cell? ⟨w.heap.size + 1, 5, none⟩ = some (.string ⟨#[]⟩) := cell_of_row _ _ _ _ _ _ HW.out
  have d38 : ((w.alloc (.cells (askM 1 a b s) 38)).alloc (.cells (askM 1 a b s) 38)).cell? ⟨w.heap.size + 1, 38, none⟩ = some (.slice none 0 0) := cell_of_row _ _ _ _ _ _ HW.out
  have d39 : ((w.alloc (.cells (askM 1 a b s) 38)).alloc (.cells (askM 1 a b s) 38)).cell? ⟨w.heap.size + 1, 39, none⟩ = some (.slice none 0 0) := cell_of_row _ _ _ _ _ _ HW.out
  have d40 : ((w.alloc (.cells (askM 1 a b s) 38)).alloc (.cells (askM 1 a b s) 38)).cell? ⟨w.heap.size + 1, 40, none⟩ = some (.string ⟨#[]⟩) := cell_of_row _ _ _ _ _ _ HW.out
  have HR := Lib.hid (root_at HV.out)
  have HR2 := Lib.hid (root_at HW.out)
  have he5 := eql35z
  go_enter Tryd.func18, Tryd.ntmps18
  go_wp2_with (first | (refine wpList_wanted ?_ fun _ hK => wp_load_mid 35 _ rfl w.heap.size 6 rfl zero32 _ HR.out Tryd.underlying35 rfl size35 (hK _ _ ?_); focus (simp [Region.wanted, yielded]; done)) | (refine wpList_wanted ?_ fun _ hK => wp_load_mid 35 _ rfl (w.heap.size + 1) 6 rfl zero32 _ HR2.out Tryd.underlying35 rfl size35 (hK _ _ ?_); focus (simp [Region.wanted, yielded]; done)) | (go_at_call 30; refine (same5_nil _).mono ?_; rintro e w1 ⟨rfl, rfl⟩) | (go_at_call 31; refine (same8_nil _).mono ?_; rintro e w1 ⟨rfl, rfl⟩))
  go_ret
  exact ⟨rfl, (by repeat (first | exact Below.refl _ _ | assumption | refine bdrew1 ?_ | refine bdrew _ ?_ | refine ball ?_ _ | (apply bset; (show _ ≤ _; omega)) | (apply bthen'; rotate_left; assumption)))⟩
