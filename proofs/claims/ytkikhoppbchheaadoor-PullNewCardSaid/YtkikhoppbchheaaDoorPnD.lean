/- Walks for PullNew: the document's check of a message that asks. -/
import Derived.Test.YtkikhoppbchheaaDoorPnC
import Derived.Handy
namespace Go.Proofs.YtkikhoppbchheaaDoor
open Go Go.RowKit

set_option maxRecDepth 100000 in
set_option maxHeartbeats 1000000 in
theorem rhead_1 (a b s : Int) (w : World) (h : a < 0) :
    Calls Tryd.prog 27 #[.agg (askM 1 a b s)] w fun e w' => e = .returned (.int .i64 11) ∧ Below w.heap.size w w' := by
  have hh := heap_alloc_last w (.cells (askM 1 a b s) 38)
  have c0 : (w.alloc (.cells (askM 1 a b s) 38)).cell? ⟨w.heap.size, 0, none⟩ = some (.int .i64 1) := cell_of_row _ _ _ _ _ _ hh
  have c1 : (w.alloc (.cells (askM 1 a b s) 38)).cell? ⟨w.heap.size, 1, none⟩ = some (.int .i64 a) := cell_of_row _ _ _ _ _ _ hh
  have c2 : (w.alloc (.cells (askM 1 a b s) 38)).cell? ⟨w.heap.size, 2, none⟩ = some (.int .i64 b) := cell_of_row _ _ _ _ _ _ hh
  have c3 : (w.alloc (.cells (askM 1 a b s) 38)).cell? ⟨w.heap.size, 3, none⟩ = some (.int .i64 s) := cell_of_row _ _ _ _ _ _ hh
  clear hh
  go_enter Tryd.func27, Tryd.ntmps27
  go_wp2
  go_ret
  exact ⟨rfl, (by repeat (first | exact Below.refl _ _ | assumption | refine bdrew1 ?_ | refine bdrew _ ?_ | refine ball ?_ _ | (apply bset; (show _ ≤ _; omega)) | (apply bthen'; rotate_left; assumption)))⟩

set_option maxRecDepth 100000 in
set_option maxHeartbeats 1000000 in
theorem rhead_2 (a b s : Int) (w : World) (h0 : 0 ≤ a) (h : 63 < a) :
    Calls Tryd.prog 27 #[.agg (askM 1 a b s)] w fun e w' => e = .returned (.int .i64 11) ∧ Below w.heap.size w w' := by
  have hh := heap_alloc_last w (.cells (askM 1 a b s) 38)
  have c0 : (w.alloc (.cells (askM 1 a b s) 38)).cell? ⟨w.heap.size, 0, none⟩ = some (.int .i64 1) := cell_of_row _ _ _ _ _ _ hh
  have c1 : (w.alloc (.cells (askM 1 a b s) 38)).cell? ⟨w.heap.size, 1, none⟩ = some (.int .i64 a) := cell_of_row _ _ _ _ _ _ hh
  have c2 : (w.alloc (.cells (askM 1 a b s) 38)).cell? ⟨w.heap.size, 2, none⟩ = some (.int .i64 b) := cell_of_row _ _ _ _ _ _ hh
  have c3 : (w.alloc (.cells (askM 1 a b s) 38)).cell? ⟨w.heap.size, 3, none⟩ = some (.int .i64 s) := cell_of_row _ _ _ _ _ _ hh
  clear hh
  go_enter Tryd.func27, Tryd.ntmps27
  go_wp2
  go_ret
  exact ⟨rfl, (by repeat (first | exact Below.refl _ _ | assumption | refine bdrew1 ?_ | refine bdrew _ ?_ | refine ball ?_ _ | (apply bset; (show _ ≤ _; omega)) | (apply bthen'; rotate_left; assumption)))⟩

set_option maxRecDepth 100000 in
set_option maxHeartbeats 1000000 in
theorem rhead_3 (a b s : Int) (w : World) (h0 : 0 ≤ a) (h1 : a ≤ 63) (h : b < 0) :
    Calls Tryd.prog 27 #[.agg (askM 1 a b s)] w fun e w' => e = .returned (.int .i64 11) ∧ Below w.heap.size w w' := by
  have hh := heap_alloc_last w (.cells (askM 1 a b s) 38)
  have c0 : (w.alloc (.cells (askM 1 a b s) 38)).cell? ⟨w.heap.size, 0, none⟩ = some (.int .i64 1) := cell_of_row _ _ _ _ _ _ hh
  have c1 : (w.alloc (.cells (askM 1 a b s) 38)).cell? ⟨w.heap.size, 1, none⟩ = some (.int .i64 a) := cell_of_row _ _ _ _ _ _ hh
  have c2 : (w.alloc (.cells (askM 1 a b s) 38)).cell? ⟨w.heap.size, 2, none⟩ = some (.int .i64 b) := cell_of_row _ _ _ _ _ _ hh
  have c3 : (w.alloc (.cells (askM 1 a b s) 38)).cell? ⟨w.heap.size, 3, none⟩ = some (.int .i64 s) := cell_of_row _ _ _ _ _ _ hh
  clear hh
  go_enter Tryd.func27, Tryd.ntmps27
  go_wp2
  go_ret
  exact ⟨rfl, (by repeat (first | exact Below.refl _ _ | assumption | refine bdrew1 ?_ | refine bdrew _ ?_ | refine ball ?_ _ | (apply bset; (show _ ≤ _; omega)) | (apply bthen'; rotate_left; assumption)))⟩

set_option maxRecDepth 100000 in
set_option maxHeartbeats 1000000 in
theorem rhead_4 (a b s : Int) (w : World) (h0 : 0 ≤ a) (h1 : a ≤ 63) (h2 : 0 ≤ b) (h : 63 < b) :
    Calls Tryd.prog 27 #[.agg (askM 1 a b s)] w fun e w' => e = .returned (.int .i64 11) ∧ Below w.heap.size w w' := by
  have hh := heap_alloc_last w (.cells (askM 1 a b s) 38)
  have c0 : (w.alloc (.cells (askM 1 a b s) 38)).cell? ⟨w.heap.size, 0, none⟩ = some (.int .i64 1) := cell_of_row _ _ _ _ _ _ hh
  have c1 : (w.alloc (.cells (askM 1 a b s) 38)).cell? ⟨w.heap.size, 1, none⟩ = some (.int .i64 a) := cell_of_row _ _ _ _ _ _ hh
  have c2 : (w.alloc (.cells (askM 1 a b s) 38)).cell? ⟨w.heap.size, 2, none⟩ = some (.int .i64 b) := cell_of_row _ _ _ _ _ _ hh
  have c3 : (w.alloc (.cells (askM 1 a b s) 38)).cell? ⟨w.heap.size, 3, none⟩ = some (.int .i64 s) := cell_of_row _ _ _ _ _ _ hh
  clear hh
  go_enter Tryd.func27, Tryd.ntmps27
  go_wp2
  go_ret
  exact ⟨rfl, (by repeat (first | exact Below.refl _ _ | assumption | refine bdrew1 ?_ | refine bdrew _ ?_ | refine ball ?_ _ | (apply bset; (show _ ≤ _; omega)) | (apply bthen'; rotate_left; assumption)))⟩

set_option maxRecDepth 100000 in
set_option maxHeartbeats 1000000 in
theorem rhead_6 (a b s : Int) (w : World) (h0 : 0 ≤ a) (h1 : a ≤ 63) (h2 : 0 ≤ b) (h3 : b ≤ 63) (hab : (a == b) = false) (h : s < 1) :
    Calls Tryd.prog 27 #[.agg (askM 1 a b s)] w fun e w' => e = .returned (.int .i64 12) ∧ Below w.heap.size w w' := by
  have hh := heap_alloc_last w (.cells (askM 1 a b s) 38)
  have c0 : (w.alloc (.cells (askM 1 a b s) 38)).cell? ⟨w.heap.size, 0, none⟩ = some (.int .i64 1) := cell_of_row _ _ _ _ _ _ hh
  have c1 : (w.alloc (.cells (askM 1 a b s) 38)).cell? ⟨w.heap.size, 1, none⟩ = some (.int .i64 a) := cell_of_row _ _ _ _ _ _ hh
  have c2 : (w.alloc (.cells (askM 1 a b s) 38)).cell? ⟨w.heap.size, 2, none⟩ = some (.int .i64 b) := cell_of_row _ _ _ _ _ _ hh
  have c3 : (w.alloc (.cells (askM 1 a b s) 38)).cell? ⟨w.heap.size, 3, none⟩ = some (.int .i64 s) := cell_of_row _ _ _ _ _ _ hh
  clear hh
  go_enter Tryd.func27, Tryd.ntmps27
  go_wp2
  go_ret
  exact ⟨rfl, (by repeat (first | exact Below.refl _ _ | assumption | refine bdrew1 ?_ | refine bdrew _ ?_ | refine ball ?_ _ | (apply bset; (show _ ≤ _; omega)) | (apply bthen'; rotate_left; assumption)))⟩

set_option maxRecDepth 100000 in
set_option maxHeartbeats 1000000 in
theorem rhead_7 (a b s : Int) (w : World) (h0 : 0 ≤ a) (h1 : a ≤ 63) (h2 : 0 ≤ b) (h3 : b ≤ 63) (hab : (a == b) = false) (h4 : 1 ≤ s) (h : 1048576 < s) :
    Calls Tryd.prog 27 #[.agg (askM 1 a b s)] w fun e w' => e = .returned (.int .i64 12) ∧ Below w.heap.size w w' := by
  have hh := heap_alloc_last w (.cells (askM 1 a b s) 38)
  have c0 : (w.alloc (.cells (askM 1 a b s) 38)).cell? ⟨w.heap.size, 0, none⟩ = some (.int .i64 1) := cell_of_row _ _ _ _ _ _ hh
  have c1 : (w.alloc (.cells (askM 1 a b s) 38)).cell? ⟨w.heap.size, 1, none⟩ = some (.int .i64 a) := cell_of_row _ _ _ _ _ _ hh
  have c2 : (w.alloc (.cells (askM 1 a b s) 38)).cell? ⟨w.heap.size, 2, none⟩ = some (.int .i64 b) := cell_of_row _ _ _ _ _ _ hh
  have c3 : (w.alloc (.cells (askM 1 a b s) 38)).cell? ⟨w.heap.size, 3, none⟩ = some (.int .i64 s) := cell_of_row _ _ _ _ _ _ hh
  clear hh
  go_enter Tryd.func27, Tryd.ntmps27
  go_wp2
  go_ret
  exact ⟨rfl, (by repeat (first | exact Below.refl _ _ | assumption | refine bdrew1 ?_ | refine bdrew _ ?_ | refine ball ?_ _ | (apply bset; (show _ ≤ _; omega)) | (apply bthen'; rotate_left; assumption)))⟩

set_option maxRecDepth 100000 in
set_option maxHeartbeats 1000000 in
theorem rhead_8 (a b s : Int) (w : World) (h0 : 0 ≤ a) (h1 : a ≤ 63) (h2 : 0 ≤ b) (h3 : b ≤ 63) (hab : (a == b) = false) (h4 : 1 ≤ s) (h5 : s ≤ 1048576) :
    Calls Tryd.prog 27 #[.agg (askM 1 a b s)] w fun e w' => e = .returned (.int .i64 0) ∧ Below w.heap.size w w' := by
  have hh := heap_alloc_last w (.cells (askM 1 a b s) 38)
  have c0 : (w.alloc (.cells (askM 1 a b s) 38)).cell? ⟨w.heap.size, 0, none⟩ = some (.int .i64 1) := cell_of_row _ _ _ _ _ _ hh
  have c1 : (w.alloc (.cells (askM 1 a b s) 38)).cell? ⟨w.heap.size, 1, none⟩ = some (.int .i64 a) := cell_of_row _ _ _ _ _ _ hh
  have c2 : (w.alloc (.cells (askM 1 a b s) 38)).cell? ⟨w.heap.size, 2, none⟩ = some (.int .i64 b) := cell_of_row _ _ _ _ _ _ hh
  have c3 : (w.alloc (.cells (askM 1 a b s) 38)).cell? ⟨w.heap.size, 3, none⟩ = some (.int .i64 s) := cell_of_row _ _ _ _ _ _ hh
  clear hh
  go_enter Tryd.func27, Tryd.ntmps27
  go_wp2
  go_ret
  exact ⟨rfl, (by repeat (first | exact Below.refl _ _ | assumption | refine bdrew1 ?_ | refine bdrew _ ?_ | refine ball ?_ _ | (apply bset; (show _ ≤ _; omega)) | (apply bthen'; rotate_left; assumption)))⟩

set_option maxRecDepth 100000 in
set_option maxHeartbeats 1000000 in
theorem rhead_5 (a s : Int) (w : World) (h0 : 0 ≤ a) (h1 : a ≤ 63) :
    Calls Tryd.prog 27 #[.agg (askM 1 a a s)] w fun e w' => e = .returned (.int .i64 11) ∧ Below w.heap.size w w' := by
  have hh := heap_alloc_last w (.cells (askM 1 a a s) 38)
  have c0 : (w.alloc (.cells (askM 1 a a s) 38)).cell? ⟨w.heap.size, 0, none⟩ = some (.int .i64 1) := cell_of_row _ _ _ _ _ _ hh
  have c1 : (w.alloc (.cells (askM 1 a a s) 38)).cell? ⟨w.heap.size, 1, none⟩ = some (.int .i64 a) := cell_of_row _ _ _ _ _ _ hh
  have c2 : (w.alloc (.cells (askM 1 a a s) 38)).cell? ⟨w.heap.size, 2, none⟩ = some (.int .i64 a) := cell_of_row _ _ _ _ _ _ hh
  have c3 : (w.alloc (.cells (askM 1 a a s) 38)).cell? ⟨w.heap.size, 3, none⟩ = some (.int .i64 s) := cell_of_row _ _ _ _ _ _ hh
  clear hh
  go_enter Tryd.func27, Tryd.ntmps27
  go_wp2
  go_ret
  exact ⟨rfl, (by repeat (first | exact Below.refl _ _ | assumption | refine bdrew1 ?_ | refine bdrew _ ?_ | refine ball ?_ _ | (apply bset; (show _ ≤ _; omega)) | (apply bthen'; rotate_left; assumption)))⟩

theorem peerB_iff (n : Int) : peerB n = true ↔ 0 ≤ n ∧ n ≤ 63 := by simp [peerB]; omega
theorem rhead_calls (a b s : Int) (w : World) :
    Calls Tryd.prog 27 #[.agg (askM 1 a b s)] w fun e w' => e = .returned (.int .i64 (chkF a b s)) ∧ Below w.heap.size w w' := by
  have pa := peerB_iff a
  have pb := peerB_iff b
  by_cases ha : 0 ≤ a ∧ a ≤ 63
  · by_cases hb : 0 ≤ b ∧ b ≤ 63
    · have ha' := pa.2 ha
      have hb' := pb.2 hb
      by_cases hab : a = b
      · subst hab
        have : chkF a a s = 11 := by simp [chkF]
        rw [this]; exact rhead_5 a s w ha.1 ha.2
      · have hab' : (a == b) = false := by simpa using hab
        by_cases h1 : s < 1
        · have : chkF a b s = 12 := by simp [chkF, ha', hb', hab, h1]
          rw [this]; exact rhead_6 a b s w ha.1 ha.2 hb.1 hb.2 hab' h1
        · by_cases h2 : 1048576 < s
          · have : chkF a b s = 12 := by simp [chkF, ha', hb', hab, h2]
            rw [this]; exact rhead_7 a b s w ha.1 ha.2 hb.1 hb.2 hab' (by omega) h2
          · have : chkF a b s = 0 := by simp [chkF, ha', hb', hab]; omega
            rw [this]; exact rhead_8 a b s w ha.1 ha.2 hb.1 hb.2 hab' (by omega) (by omega)
    · have hb' : peerB b = false := by
        cases h : peerB b
        · rfl
        · exact absurd (pb.1 h) hb
      have : chkF a b s = 11 := by simp [chkF, hb']
      rw [this]
      by_cases h0 : b < 0
      · exact rhead_3 a b s w ha.1 ha.2 h0
      · exact rhead_4 a b s w ha.1 ha.2 (by omega) (by omega)
  · have ha' : peerB a = false := by
      cases h : peerB a
      · rfl
      · exact absurd (pa.1 h) ha
    have : chkF a b s = 11 := by simp [chkF, ha']
    rw [this]
    by_cases h0 : a < 0
    · exact rhead_1 a b s w h0
    · exact rhead_2 a b s w (by omega) (by omega)

set_option maxHeartbeats 400000 in
theorem rvec_nil (w : World) : Calls Tryd.prog 29 #[.slice none 0 0] w fun e w' => e = .returned (.int .i64 0) ∧ w = w' := by
  go_enter Tryd.func29, Tryd.ntmps29
  go_wp2
  go_rounds 1
  go_ret
  exact ⟨rfl, rfl⟩

theorem rcheck_bad (a b s : Int) (w : World) (h : (chkF a b s == 0) = false) :
    Calls Tryd.prog 15 #[.agg (askM 1 a b s)] w fun e w' => e = .returned (.int .i64 (chkF a b s)) ∧ Below w.heap.size w w' := by
  obtain ⟨hz, hs⟩ := zero_of_info info38
  have HS := Lib.hid hs
  have HH := Lib.hid (heap_alloc_last w (.cells (askM 1 a b s) 38))
  have h2 : (chkF a b s != 0) = true := by simpa using h
  clear hs
  go_enter Tryd.func15, Tryd.ntmps15
  go_wp2_with (refine wpList_load_row rfl 38 _ rfl w.heap.size rfl 38 (askM 1 a b s) (0, 0) _ HH.out Tryd.underlying38 rfl HS.out ?_)
  refine (rhead_calls a b s _).mono ?_
  rintro e w1 ⟨rfl, hb1⟩
  go_wp2_with fail
  go_ret
  exact ⟨rfl, (by repeat (first | exact Below.refl _ _ | assumption | refine bdrew1 ?_ | refine bdrew _ ?_ | refine ball ?_ _ | (apply bset; (show _ ≤ _; omega)) | (apply bthen'; rotate_left; assumption)))⟩
