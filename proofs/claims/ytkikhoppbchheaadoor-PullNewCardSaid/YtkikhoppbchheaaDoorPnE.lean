/- Walks for PullNew: the document's check, where it finds nothing. -/
import Derived.Test.YtkikhoppbchheaaDoorPnD
namespace Go.Proofs.YtkikhoppbchheaaDoor
open Go Go.RowKit
set_option maxRecDepth 100000 in
set_option maxHeartbeats 2000000 in
theorem rcheck_good (a b s : Int) (w : World) (h : chkF a b s = 0) :
    Calls Tryd.prog 15 #[.agg (askM 1 a b s)] w fun e w' => e = .returned (.int .i64 0) ∧ Below w.heap.size w w' := by
  obtain ⟨hz, hs⟩ := zero_of_info info38
  have HS := Lib.hid hs
  have HH := Lib.hid (heap_alloc_last w (.cells (askM 1 a b s) 38))
  have H := Lib.hid h
  clear hs h
  go_enter Tryd.func15, Tryd.ntmps15
  go_wp2_with (refine wpList_load_row rfl 38 _ rfl w.heap.size rfl 38 (askM 1 a b s) (0, 0) _ HH.out Tryd.underlying38 rfl HS.out ?_)
  refine (rhead_calls a b s _).mono ?_
  rw [H.out]
  rintro e W1 ⟨rfl, hb1⟩
  have hh : W1.heap[w.heap.size]? = some (.cells (askM 1 a b s) 38) := (hb1.block _ (by simp)).trans HH.out
  have hB1 : Below w.heap.size w W1 := bthen' (ball (Below.refl _ _) _) hb1
  have c0 : W1.cell? ⟨w.heap.size, 0, none⟩ = some (.int .i64 1) := cell_of_row _ _ _ _ _ _ hh
  have c4 : W1.cell? ⟨w.heap.size, 4, none⟩ = some (.bool false) := cell_of_row _ _ _ _ _ _ hh
  have c5 : W1.cell? ⟨w.heap.size, 5, none⟩ = some (.string ⟨#[]⟩) := cell_of_row _ _ _ _ _ _ hh
  have c38 : W1.cell? ⟨w.heap.size, 38, none⟩ = some (.slice none 0 0) := cell_of_row _ _ _ _ _ _ hh
  have c39 : W1.cell? ⟨w.heap.size, 39, none⟩ = some (.slice none 0 0) := cell_of_row _ _ _ _ _ _ hh
  have c40 : W1.cell? ⟨w.heap.size, 40, none⟩ = some (.string ⟨#[]⟩) := cell_of_row _ _ _ _ _ _ hh
  have HR := Lib.hid (root_at hh)
  have he5 := eql35
  clear hh hb1
  go_wp2_with (first | (refine wpList_load_mid rfl 35 _ rfl w.heap.size 6 rfl zero32 _ HR.out Tryd.underlying35 rfl (by kernel_rfl) ?_) | (go_at_call 29; refine (rvec_nil _).mono ?_; rintro e w1 ⟨rfl, rfl⟩))
  go_rounds 1
  go_ret
  exact ⟨rfl, hB1⟩

theorem rcheck_calls (a b s : Int) (w : World) :
    Calls Tryd.prog 15 #[.agg (askM 1 a b s)] w fun e w' => e = .returned (.int .i64 (chkF a b s)) ∧ Below w.heap.size w w' := by
  by_cases h : chkF a b s = 0
  · rw [h]; exact rcheck_good a b s w h
  · exact rcheck_bad a b s w (by simpa using h)
