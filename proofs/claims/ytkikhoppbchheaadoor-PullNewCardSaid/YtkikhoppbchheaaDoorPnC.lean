/- Walks for PullNew: the check. -/
import Derived.Test.YtkikhoppbchheaaDoorPnB
namespace Go.Proofs.YtkikhoppbchheaaDoor
open Go Go.RowKit
/-- What is wrong with a message that asks. -/
def chkF (a b s : Int) : Int := if peerB a = false ∨ peerB b = false ∨ a = b then 11 else if s < 1 ∨ 1048576 < s then 12 else 0
theorem bld69 : ∀ w, (Instr.build 69 #[]).run Tryd.prog w = .ok (.agg #[]) w := fun _ => by kernel_rfl

set_option maxRecDepth 100000 in
set_option maxHeartbeats 1000000 in
theorem mcheck_a (a b s : Int) (w : World) (ha : peerB a = false) :
    Calls Tryd.prog 11 #[.agg (askM 1 a b s)] w fun e w' => e = .returned (.int .i64 (chkF a b s)) ∧ Below w.heap.size w w' := by
  have hh := heap_alloc_last w (.cells (askM 1 a b s) 38)
  have c0 : (w.alloc (.cells (askM 1 a b s) 38)).cell? ⟨w.heap.size, 0, none⟩ = some (.int .i64 1) := cell_of_row _ _ _ _ _ _ hh
  have c1 : (w.alloc (.cells (askM 1 a b s) 38)).cell? ⟨w.heap.size, 1, none⟩ = some (.int .i64 a) := cell_of_row _ _ _ _ _ _ hh
  have c2 : (w.alloc (.cells (askM 1 a b s) 38)).cell? ⟨w.heap.size, 2, none⟩ = some (.int .i64 b) := cell_of_row _ _ _ _ _ _ hh
  have c3 : (w.alloc (.cells (askM 1 a b s) 38)).cell? ⟨w.heap.size, 3, none⟩ = some (.int .i64 s) := cell_of_row _ _ _ _ _ _ hh
  have HF : Hid (chkF a b s = 11) := by show _ = _; simp [chkF, ha]
  clear hh
  go_enter Tryd.func11, Tryd.ntmps11
  go_wp2_with (go_at_call 22; refine (peer_calls _ _).mono ?_; rintro e w1 ⟨rfl, rfl⟩)
  go_ret
  exact ⟨ret_int (by rw [HF.out]), (by repeat (first | exact Below.refl _ _ | assumption | refine bdrew1 ?_ | refine bdrew _ ?_ | refine ball ?_ _ | (apply bset; (show _ ≤ _; omega)) | (apply bthen'; rotate_left; assumption)))⟩

set_option maxRecDepth 100000 in
set_option maxHeartbeats 1000000 in
theorem mcheck_b (a b s : Int) (w : World) (ha : peerB a = true) (hb : peerB b = false) :
    Calls Tryd.prog 11 #[.agg (askM 1 a b s)] w fun e w' => e = .returned (.int .i64 (chkF a b s)) ∧ Below w.heap.size w w' := by
  have hh := heap_alloc_last w (.cells (askM 1 a b s) 38)
  have c0 : (w.alloc (.cells (askM 1 a b s) 38)).cell? ⟨w.heap.size, 0, none⟩ = some (.int .i64 1) := cell_of_row _ _ _ _ _ _ hh
  have c1 : (w.alloc (.cells (askM 1 a b s) 38)).cell? ⟨w.heap.size, 1, none⟩ = some (.int .i64 a) := cell_of_row _ _ _ _ _ _ hh
  have c2 : (w.alloc (.cells (askM 1 a b s) 38)).cell? ⟨w.heap.size, 2, none⟩ = some (.int .i64 b) := cell_of_row _ _ _ _ _ _ hh
  have c3 : (w.alloc (.cells (askM 1 a b s) 38)).cell? ⟨w.heap.size, 3, none⟩ = some (.int .i64 s) := cell_of_row _ _ _ _ _ _ hh
  have HF : Hid (chkF a b s = 11) := by show _ = _; simp [chkF, hb]
  clear hh
  go_enter Tryd.func11, Tryd.ntmps11
  go_wp2_with (go_at_call 22; refine (peer_calls _ _).mono ?_; rintro e w1 ⟨rfl, rfl⟩)
  go_ret
  exact ⟨ret_int (by rw [HF.out]), (by repeat (first | exact Below.refl _ _ | assumption | refine bdrew1 ?_ | refine bdrew _ ?_ | refine ball ?_ _ | (apply bset; (show _ ≤ _; omega)) | (apply bthen'; rotate_left; assumption)))⟩

set_option maxRecDepth 100000 in
set_option maxHeartbeats 1000000 in
theorem mcheck_s (a b s : Int) (w : World) (ha : peerB a = true) (hb : peerB b = true) (hab : (a == b) = false) (hs : s < 1) :
    Calls Tryd.prog 11 #[.agg (askM 1 a b s)] w fun e w' => e = .returned (.int .i64 (chkF a b s)) ∧ Below w.heap.size w w' := by
  have hh := heap_alloc_last w (.cells (askM 1 a b s) 38)
  have c0 : (w.alloc (.cells (askM 1 a b s) 38)).cell? ⟨w.heap.size, 0, none⟩ = some (.int .i64 1) := cell_of_row _ _ _ _ _ _ hh
  have c1 : (w.alloc (.cells (askM 1 a b s) 38)).cell? ⟨w.heap.size, 1, none⟩ = some (.int .i64 a) := cell_of_row _ _ _ _ _ _ hh
  have c2 : (w.alloc (.cells (askM 1 a b s) 38)).cell? ⟨w.heap.size, 2, none⟩ = some (.int .i64 b) := cell_of_row _ _ _ _ _ _ hh
  have c3 : (w.alloc (.cells (askM 1 a b s) 38)).cell? ⟨w.heap.size, 3, none⟩ = some (.int .i64 s) := cell_of_row _ _ _ _ _ _ hh
  have HF : Hid (chkF a b s = 12) := by show _ = _; simp [chkF, ha, hb, hs]; simpa using hab
  clear hh
  go_enter Tryd.func11, Tryd.ntmps11
  go_wp2_with (go_at_call 22; refine (peer_calls _ _).mono ?_; rintro e w1 ⟨rfl, rfl⟩)
  go_ret
  exact ⟨ret_int (by rw [HF.out]), (by repeat (first | exact Below.refl _ _ | assumption | refine bdrew1 ?_ | refine bdrew _ ?_ | refine ball ?_ _ | (apply bset; (show _ ≤ _; omega)) | (apply bthen'; rotate_left; assumption)))⟩

set_option maxRecDepth 100000 in
set_option maxHeartbeats 1000000 in
theorem mcheck_t (a b s : Int) (w : World) (ha : peerB a = true) (hb : peerB b = true) (hab : (a == b) = false) (hs : 1048576 < s) :
    Calls Tryd.prog 11 #[.agg (askM 1 a b s)] w fun e w' => e = .returned (.int .i64 (chkF a b s)) ∧ Below w.heap.size w w' := by
  have hh := heap_alloc_last w (.cells (askM 1 a b s) 38)
  have c0 : (w.alloc (.cells (askM 1 a b s) 38)).cell? ⟨w.heap.size, 0, none⟩ = some (.int .i64 1) := cell_of_row _ _ _ _ _ _ hh
  have c1 : (w.alloc (.cells (askM 1 a b s) 38)).cell? ⟨w.heap.size, 1, none⟩ = some (.int .i64 a) := cell_of_row _ _ _ _ _ _ hh
  have c2 : (w.alloc (.cells (askM 1 a b s) 38)).cell? ⟨w.heap.size, 2, none⟩ = some (.int .i64 b) := cell_of_row _ _ _ _ _ _ hh
  have c3 : (w.alloc (.cells (askM 1 a b s) 38)).cell? ⟨w.heap.size, 3, none⟩ = some (.int .i64 s) := cell_of_row _ _ _ _ _ _ hh
  have HF : Hid (chkF a b s = 12) := by show _ = _; simp [chkF, ha, hb, hs]; simpa using hab
  clear hh
  go_enter Tryd.func11, Tryd.ntmps11
  go_wp2_with (go_at_call 22; refine (peer_calls _ _).mono ?_; rintro e w1 ⟨rfl, rfl⟩)
  go_ret
  exact ⟨ret_int (by rw [HF.out]), (by repeat (first | exact Below.refl _ _ | assumption | refine bdrew1 ?_ | refine bdrew _ ?_ | refine ball ?_ _ | (apply bset; (show _ ≤ _; omega)) | (apply bthen'; rotate_left; assumption)))⟩

set_option maxRecDepth 100000 in
set_option maxHeartbeats 1000000 in
theorem mcheck_e (a s : Int) (w : World) (ha : peerB a = true) :
    Calls Tryd.prog 11 #[.agg (askM 1 a a s)] w fun e w' => e = .returned (.int .i64 11) ∧ Below w.heap.size w w' := by
  have hh := heap_alloc_last w (.cells (askM 1 a a s) 38)
  have c0 : (w.alloc (.cells (askM 1 a a s) 38)).cell? ⟨w.heap.size, 0, none⟩ = some (.int .i64 1) := cell_of_row _ _ _ _ _ _ hh
  have c1 : (w.alloc (.cells (askM 1 a a s) 38)).cell? ⟨w.heap.size, 1, none⟩ = some (.int .i64 a) := cell_of_row _ _ _ _ _ _ hh
  have c2 : (w.alloc (.cells (askM 1 a a s) 38)).cell? ⟨w.heap.size, 2, none⟩ = some (.int .i64 a) := cell_of_row _ _ _ _ _ _ hh
  clear hh
  go_enter Tryd.func11, Tryd.ntmps11
  go_wp2_with (go_at_call 22; refine (peer_calls _ _).mono ?_; rintro e w1 ⟨rfl, rfl⟩)
  go_ret
  exact ⟨rfl, (by repeat (first | exact Below.refl _ _ | assumption | refine bdrew1 ?_ | refine bdrew _ ?_ | refine ball ?_ _ | (apply bset; (show _ ≤ _; omega)) | (apply bthen'; rotate_left; assumption)))⟩

set_option maxRecDepth 100000 in
set_option maxHeartbeats 1000000 in
theorem mcheck_ok (a b s : Int) (w : World) (ha : peerB a = true) (hb : peerB b = true) (hab : (a == b) = false) (hs1 : 1 ≤ s) (hs2 : s ≤ 1048576) :
    Calls Tryd.prog 11 #[.agg (askM 1 a b s)] w fun e w' => e = .returned (.int .i64 0) ∧ Below w.heap.size w w' := by
  obtain ⟨hz, hs⟩ := zero_of_info info38
  have HS := Lib.hid hs
  have hh := heap_alloc_last w (.cells (askM 1 a b s) 38)
  have c0 : (w.alloc (.cells (askM 1 a b s) 38)).cell? ⟨w.heap.size, 0, none⟩ = some (.int .i64 1) := cell_of_row _ _ _ _ _ _ hh
  have c1 : (w.alloc (.cells (askM 1 a b s) 38)).cell? ⟨w.heap.size, 1, none⟩ = some (.int .i64 a) := cell_of_row _ _ _ _ _ _ hh
  have c2 : (w.alloc (.cells (askM 1 a b s) 38)).cell? ⟨w.heap.size, 2, none⟩ = some (.int .i64 b) := cell_of_row _ _ _ _ _ _ hh
  have c3 : (w.alloc (.cells (askM 1 a b s) 38)).cell? ⟨w.heap.size, 3, none⟩ = some (.int .i64 s) := cell_of_row _ _ _ _ _ _ hh
  have HH := Lib.hid hh
  have hb69 := bld69
  clear hh hs
  go_enter Tryd.func11, Tryd.ntmps11
  have HH2 := Lib.hid (heap_alloc2_new w (.cells (askM 1 a b s) 38) (.cells (askM 0 0 0 0) 38))
  go_wp2_with (first | (go_at_call 22; refine (peer_calls _ _).mono ?_; rintro e w1 ⟨rfl, rfl⟩) | (refine wpList_load_row rfl 38 _ rfl w.heap.size rfl 38 (askM 1 a b s) (0, 0) _ HH.out Tryd.underlying38 rfl HS.out ?_) | (refine wpList_store_blk rfl 38 _ _ rfl (w.heap.size + 1) rfl (askM 1 a b s) rfl 38 (askM 0 0 0 0) HH2.out HS.out rfl (askM_one ..) ?_; rw [setRow_alloc2]))
  have k1 := heap_alloc2_new w (.cells (askM 1 a b s) 38) (.cells (askM 1 a b s) 38)
  have k0 := heap_alloc2_old w (.cells (askM 1 a b s) 38) (.cells (askM 1 a b s) 38)
  have hB : Below w.heap.size w ((w.alloc (.cells (askM 1 a b s) 38)).alloc (.cells (askM 1 a b s) 38)) := (by repeat (first | exact Below.refl _ _ | assumption | refine bdrew1 ?_ | refine bdrew _ ?_ | refine ball ?_ _ | (apply bset; (show _ ≤ _; omega)) | (apply bthen'; rotate_left; assumption)))
  have hsz : ((w.alloc (.cells (askM 1 a b s) 38)).alloc (.cells (askM 1 a b s) 38)).heap.size = w.heap.size + 2 := by simp
  clear HH2 HH
  generalize ((w.alloc (.cells (askM 1 a b s) 38)).alloc (.cells (askM 1 a b s) 38)) = W2 at *
  refine (own_calls _ _ _ (cell_of_row _ _ _ _ _ _ k1)).mono ?_
  rintro e w1 ⟨rfl, rfl⟩
  have K1 := Lib.hid k1
  clear k1
  go_wp2_with (refine wpList_load_row rfl 38 _ rfl (w.heap.size + 1) rfl 38 (askM 1 a b s) (0, 0) _ K1.out Tryd.underlying38 rfl HS.out ?_)
  refine (bare_calls 1 a b s W2).mono ?_
  rintro e W3 ⟨rfl, hb3⟩
  have k03 : W3.heap[w.heap.size]? = some (Obj.cells (askM 1 a b s) 38) := (hb3.block _ (by omega)).trans k0
  have hs3 := hb3.size
  have hB3 : Below w.heap.size w W3 := bthen' hB hb3
  have K0 := Lib.hid k03
  clear k0 k03
  go_wp2_with fail
  refine (own_calls _ _ _ ?hc).mono ?_
  case hc => exact cell_of_row _ _ _ _ _ _ ((Below.heap_alloc W3 _ _ (by omega)).trans K0.out)
  rintro e w4 ⟨rfl, rfl⟩
  go_wp2_with fail
  go_ret
  exact ⟨rfl, (by repeat (first | exact Below.refl _ _ | assumption | refine bdrew1 ?_ | refine bdrew _ ?_ | refine ball ?_ _ | (apply bset; (show _ ≤ _; omega)) | (apply bthen'; rotate_left; assumption)))⟩

theorem mcheck_calls (a b s : Int) (w : World) :
    Calls Tryd.prog 11 #[.agg (askM 1 a b s)] w fun e w' => e = .returned (.int .i64 (chkF a b s)) ∧ Below w.heap.size w w' := by
  by_cases ha : peerB a = true
  · by_cases hb : peerB b = true
    · by_cases hab : a = b
      · subst hab
        have : chkF a a s = 11 := by simp [chkF]
        rw [this]; exact mcheck_e a s w ha
      · have hab' : (a == b) = false := by simpa using hab
        by_cases h1 : s < 1
        · exact mcheck_s a b s w ha hb hab' h1
        · by_cases h2 : 1048576 < s
          · exact mcheck_t a b s w ha hb hab' h2
          · have : chkF a b s = 0 := by simp [chkF, ha, hb, hab]; omega
            rw [this]; exact mcheck_ok a b s w ha hb hab' (by omega) (by omega)
    · exact mcheck_b a b s w ha (by simpa using hb)
  · exact mcheck_a a b s w (by simpa using ha)
