/- Walks for PullNew. -/
import Derived.Test.YtkikhoppbchheaaDoorProg
import Derived.Below
import Derived.WalkKit
import Derived.KernelRfl
import Derived.Lib.Hide
import Derived.Laws.Rows
import Derived.Laws.ResultCell
import Derived.Deep.MidRow
import Derived.Deep.WholeRow
import Derived.RegionTactic
import Derived.BigRegion
import Derived.Deep.QuietTactic
import Derived.BigQuiet
import Derived.Deep.RegionWith
import Derived.StillTailTactics
import Derived.Test.YtkikhoppbchheaaDoorBase
import Derived.Test.YtkikhoppbchheaaDoorReg
namespace Go.Proofs.YtkikhoppbchheaaDoor
open Go Go.RowKit
/-- The message that asks. -/
def askM (k a b s : Int) : Array Value := #[.int .i64 k, .int .i64 a, .int .i64 b, .int .i64 s, .bool false, .string ⟨#[]⟩,
  .int .u8 0, .int .u8 0, .int .u8 0, .int .u8 0, .int .u8 0, .int .u8 0, .int .u8 0, .int .u8 0, .int .u8 0, .int .u8 0, .int .u8 0, .int .u8 0, .int .u8 0, .int .u8 0, .int .u8 0, .int .u8 0,
  .int .u8 0, .int .u8 0, .int .u8 0, .int .u8 0, .int .u8 0, .int .u8 0, .int .u8 0, .int .u8 0, .int .u8 0, .int .u8 0, .int .u8 0, .int .u8 0, .int .u8 0, .int .u8 0, .int .u8 0, .int .u8 0,
  .slice none 0 0, .slice none 0 0, .string ⟨#[]⟩]
theorem build_ask (k a b s : Int) : ∀ w, (Instr.build 38 #[(0, .int .i64 k), (1, .int .i64 a), (2, .int .i64 b), (3, .int .i64 s)]).run Tryd.prog w = .ok (.agg (askM k a b s)) w := fun _ => by kernel_rfl
theorem info38 : (Tryd.prog.info? 38).map (fun i => (i.zero, i.size)) = some (some (.agg (askM 0 0 0 0)), 41) := by kernel_rfl
theorem askM_size (k a b s : Int) : (askM k a b s).size = 41 := rfl
theorem askM_one (k a b s : Int) : (askM k a b s).all (·.oneCell') = true := by simp [askM, Value.oneCell']
set_option maxRecDepth 100000 in
set_option maxHeartbeats 1000000 in
theorem ask_calls (g : Nat) (a b s : Int) (w : World) (h0 : w.cell? ⟨g, 0, none⟩ = some (.int .i64 a)) (h1 : w.cell? ⟨g, 1, none⟩ = some (.int .i64 b)) (h2 : w.cell? ⟨g, 2, none⟩ = some (.int .i64 s)) (hg : g < w.heap.size) :
    Calls Tryd.prog 12 #[.pointer (some ⟨g, 0, none⟩)] w fun e w' => e = .returned (.agg (askM 1 a b s)) ∧ Below w.heap.size w w' := by
  obtain ⟨hz, hs⟩ := zero_of_info info38
  have hb := build_ask
  go_enter Tryd.func12, Tryd.ntmps12
  go_wp2
  refine wp_region_seq (fun w' => w' = World.drew _) [(0, true), (1, true), (2, true), (3, true), (4, true), (5, true), (6, true), (7, true), (8, true), (9, true), (10, true), (11, true), (12, true), (13, false)] 13 (by kernel_rfl) (by kernel_rfl) rfl ?_
  repeat (first
    | (apply held_det
       · rfl
       · first | rfl | (simp [Region.wanted, yielded, *]; done)
       · (intro w' hS; obtain rfl := hS; go_simp; first | done | exact rfl)
       simp only [Act.put, List.set_cons_zero, List.set_cons_succ, List.setIfInBounds_toArray])
    | (apply held_skip
       · rfl
       · first | rfl | (simp [Region.wanted, yielded, *]; done)
       simp only [Act.put, List.set_cons_zero, List.set_cons_succ, List.setIfInBounds_toArray]))
  apply held_nd
  · rfl
  · rfl
  intro k hk
  refine wp_store_blk 38 _ _ rfl w.heap.size rfl (askM 1 a b s) rfl 38 (askM 0 0 0 0) (heap_alloc_last w _) hs rfl (askM_one ..) ?_
  rw [setRow_drew, World.setRow_alloc_new]
  refine hk _ _ ⟨fun h => absurd rfl h, held_nil ?_⟩
  go_wp2
  refine bodyPost_ret (results_cell_row rfl _ _ w.heap.size 38 (askM 1 a b s) (0, 0) _ rfl (heap_alloc_last w _) Tryd.underlying38 rfl hs) rfl ⟨rfl, (by repeat (first | exact Below.refl _ _ | assumption | refine bdrew1 ?_ | refine bdrew _ ?_ | refine ball ?_ _ | (apply bset; (show _ ≤ _; omega)) | (apply bthen'; rotate_left; assumption)))⟩

/-- A pull that has come so far: its cells. -/
def pullC (a b s d t0 t1 t2 : Int) (v : Value) : Array Value := #[.int .i64 a, .int .i64 b, .int .i64 s, .pointer none, .slice none 0 0, .int .i64 d, .int .i64 t0, .int .i64 t1, .int .i64 t2, v,
  .int .i64 0, .int .i64 0, .int .i64 0, .int .i64 0, .bool false, .string ⟨#[]⟩, .int .u8 0, .int .u8 0, .int .u8 0, .int .u8 0, .int .u8 0, .int .u8 0, .int .u8 0, .int .u8 0, .int .u8 0, .int .u8 0, .int .u8 0, .int .u8 0, .int .u8 0, .int .u8 0, .int .u8 0, .int .u8 0, .int .u8 0, .int .u8 0, .int .u8 0, .int .u8 0, .int .u8 0, .int .u8 0, .int .u8 0, .int .u8 0, .int .u8 0, .int .u8 0, .int .u8 0, .int .u8 0, .int .u8 0, .int .u8 0, .int .u8 0, .int .u8 0, .slice none 0 0, .slice none 0 0, .string ⟨#[]⟩, .pointer none, .pointer none, .slice none 0 0]
def Pull (w : World) (g : Nat) (a b s d t0 t1 t2 : Int) (v : Value) : Prop := w.heap[g]? = some (.cells (pullC a b s d t0 t1 t2 v) 55 (0, 0))
section
variable {w : World} {g : Nat} {a b s d t0 t1 t2 : Int} {v : Value}
theorem Pull.c0 (h : Pull w g a b s d t0 t1 t2 v) : w.cell? ⟨g, 0, none⟩ = some (.int .i64 a) := cell_of_row _ _ _ _ _ _ h
theorem Pull.c1 (h : Pull w g a b s d t0 t1 t2 v) : w.cell? ⟨g, 1, none⟩ = some (.int .i64 b) := cell_of_row _ _ _ _ _ _ h
theorem Pull.c2 (h : Pull w g a b s d t0 t1 t2 v) : w.cell? ⟨g, 2, none⟩ = some (.int .i64 s) := cell_of_row _ _ _ _ _ _ h
theorem Pull.c5 (h : Pull w g a b s d t0 t1 t2 v) : w.cell? ⟨g, 5, none⟩ = some (.int .i64 d) := cell_of_row _ _ _ _ _ _ h
theorem Pull.c6 (h : Pull w g a b s d t0 t1 t2 v) : w.cell? ⟨g, 6, none⟩ = some (.int .i64 t0) := cell_of_row _ _ _ _ _ _ h
theorem Pull.c7 (h : Pull w g a b s d t0 t1 t2 v) : w.cell? ⟨g, 7, none⟩ = some (.int .i64 t1) := cell_of_row _ _ _ _ _ _ h
theorem Pull.c8 (h : Pull w g a b s d t0 t1 t2 v) : w.cell? ⟨g, 8, none⟩ = some (.int .i64 t2) := cell_of_row _ _ _ _ _ _ h
theorem Pull.c9 (h : Pull w g a b s d t0 t1 t2 v) : w.cell? ⟨g, 9, none⟩ = some v := cell_of_row _ _ _ _ _ _ h
theorem Pull.fr (h : Pull w g a b s d t0 t1 t2 v) (j : Nat) : w.frozen? ⟨g, j, none⟩ = false := frozen_of_row _ _ _ _ _ h
theorem Pull.lt (h : Pull w g a b s d t0 t1 t2 v) : g < w.heap.size := (Array.getElem?_eq_some_iff.1 h).1
theorem Pull.set9 (h : Pull w g a b s d t0 t1 t2 v) (v' : Value) : Pull (w.setCell ⟨g, 9, none⟩ v') g a b s d t0 t1 t2 v' := by
  have := heap_setCell_same w g 9 _ _ v' h
  exact this
theorem Pull.set5 (h : Pull w g a b s d t0 t1 t2 v) (d' : Int) : Pull (w.setCell ⟨g, 5, none⟩ (.int .i64 d')) g a b s d' t0 t1 t2 v := by
  have := heap_setCell_same w g 5 _ _ (.int .i64 d') h
  exact this
theorem Pull.below {w' : World} (h : Pull w g a b s d t0 t1 t2 v) (hb : Below w.heap.size w w') : Pull w' g a b s d t0 t1 t2 v := (hb.block _ h.lt).trans h
end
