/- Walks for PullNew: what checks a message that asks. -/
import Derived.Test.YtkikhoppbchheaaDoorPnA
import Derived.LoopTactic
namespace Go.Proofs.YtkikhoppbchheaaDoor
open Go Go.RowKit
def waitN : Nat → Int → Int
  | 0, w => w
  | n + 1, w => if w < 32 then waitN n (w * 2) else w
theorem waitN_stop (n : Nat) (w : Int) (h : 32 ≤ w) : waitN n w = w := by
  cases n with
  | zero => rfl
  | succ n => rw [waitN, if_neg (by omega)]
set_option maxHeartbeats 1000000 in
theorem wait_calls (n : Nat) (hn : n ≤ 1000) (w : World) :
    Calls Tryd.prog 21 #[.int .i64 n] w fun e w' => e = .returned (.int .i64 (waitN n 2)) ∧ w = w' := by
  go_enter Tryd.func21, Tryd.ntmps21
  go_wp2
  go_loop [0, 3] (fun a b => ∃ (k : Nat) (q : Int), k ≤ n ∧ a = .int .i64 k ∧ b = .int .i64 q ∧ 2 ≤ q ∧ q < 64 ∧ waitN n 2 = waitN k q) (fun a _ => (intOf a).toNat)
  case atStart => exact ⟨n, 2, Nat.le_refl _, rfl, rfl, by omega, by omega, rfl⟩
  case round =>
    obtain ⟨k, q, hk, rfl, rfl, h2, h64, hv⟩ := hrel
    by_cases hlt : 0 < k
    · obtain ⟨k, rfl⟩ : ∃ j, k = j + 1 := ⟨k - 1, by omega⟩
      by_cases hq : q < 32
      · rw [waitN, if_pos hq] at hv
        have HV := Lib.hid hv
        clear hv
        go_wp2
        refine ⟨⟨k, q * 2, by omega, by go_num, rfl, by omega, by omega, HV.out⟩, by simp [intOf]⟩
      · rw [waitN_stop (k + 1) q (by omega)] at hv
        have HV := Lib.hid hv
        clear hv
        go_wp2
        go_ret
        exact ⟨ret_int HV.out.symm, rfl⟩
    · obtain rfl : k = 0 := by omega
      have HV := Lib.hid hv
      clear hv
      go_wp2
      go_ret
      exact ⟨ret_int HV.out.symm, rfl⟩

def peerB (n : Int) : Bool := decide (0 ≤ n) && decide (n < 64)
theorem peer_calls (n : Int) (w : World) :
    Calls Tryd.prog 22 #[.int .i64 n] w fun e w' => e = .returned (.bool (peerB n)) ∧ w = w' := by
  go_enter Tryd.func22, Tryd.ntmps22
  go_wp2
  all_goals (go_ret; refine ⟨ret_bool ?_, rfl⟩; unfold peerB; first | (simp; omega) | simp [*])

theorem own_calls (g : Nat) (f : Value) (w : World) (h0 : w.cell? ⟨g, 0, none⟩ = some (.int .i64 1)) :
    Calls Tryd.prog 23 #[.pointer (some ⟨g, 0, none⟩), f] w fun e w' => e = .returned (.tuple #[]) ∧ w = w' := by
  go_enter Tryd.func23, Tryd.ntmps23
  go_wp2
  go_end0
  exact ⟨rfl, rfl⟩

def zero32 : List Value := [.int .u8 0, .int .u8 0, .int .u8 0, .int .u8 0, .int .u8 0, .int .u8 0, .int .u8 0, .int .u8 0, .int .u8 0, .int .u8 0, .int .u8 0, .int .u8 0, .int .u8 0, .int .u8 0, .int .u8 0, .int .u8 0, .int .u8 0, .int .u8 0, .int .u8 0, .int .u8 0, .int .u8 0, .int .u8 0, .int .u8 0, .int .u8 0, .int .u8 0, .int .u8 0, .int .u8 0, .int .u8 0, .int .u8 0, .int .u8 0, .int .u8 0, .int .u8 0]
theorem bld35 : ∀ w, (Instr.build 35 #[]).run Tryd.prog w = .ok (.agg zero32.toArray) w := fun _ => by kernel_rfl
theorem eql35 : ∀ w, (Op.equalIn 10000 35 (.agg zero32.toArray) (.agg #[.int .u8 0, .int .u8 0, .int .u8 0, .int .u8 0, .int .u8 0, .int .u8 0, .int .u8 0, .int .u8 0, .int .u8 0, .int .u8 0, .int .u8 0, .int .u8 0, .int .u8 0, .int .u8 0, .int .u8 0, .int .u8 0, .int .u8 0, .int .u8 0, .int .u8 0, .int .u8 0, .int .u8 0, .int .u8 0, .int .u8 0, .int .u8 0, .int .u8 0, .int .u8 0, .int .u8 0, .int .u8 0, .int .u8 0, .int .u8 0, .int .u8 0, .int .u8 0])).run Tryd.prog w = .ok true w := fun _ => by kernel_rfl
theorem root_at {w : World} {g : Nat} {k a b s : Int} {t : TypeId} {fr : Nat × Nat} (h : w.heap[g]? = some (.cells (askM k a b s) t fr)) : w.rangeAt g 6 zero32 := by
  have e : ((askM k a b s).extract 6 (6 + 32)).toList = zero32 := by kernel_rfl
  rw [← e]
  exact World.rangeAt_of_block h 6 32
set_option maxRecDepth 100000 in
set_option maxHeartbeats 1000000 in
theorem bare_calls (k a b s : Int) (w : World) :
    Calls Tryd.prog 24 #[.agg (askM k a b s)] w fun e w' => e = .returned (.bool true) ∧ Below w.heap.size w w' := by
  have he5 := eql35
  have hh := heap_alloc_last w (.cells (askM k a b s) 38)
  have c4 : (w.alloc (.cells (askM k a b s) 38)).cell? ⟨w.heap.size, 4, none⟩ = some (.bool false) := cell_of_row _ _ _ _ _ _ hh
  have c5 : (w.alloc (.cells (askM k a b s) 38)).cell? ⟨w.heap.size, 5, none⟩ = some (.string ⟨#[]⟩) := cell_of_row _ _ _ _ _ _ hh
  have c38 : (w.alloc (.cells (askM k a b s) 38)).cell? ⟨w.heap.size, 38, none⟩ = some (.slice none 0 0) := cell_of_row _ _ _ _ _ _ hh
  have c39 : (w.alloc (.cells (askM k a b s) 38)).cell? ⟨w.heap.size, 39, none⟩ = some (.slice none 0 0) := cell_of_row _ _ _ _ _ _ hh
  have c40 : (w.alloc (.cells (askM k a b s) 38)).cell? ⟨w.heap.size, 40, none⟩ = some (.string ⟨#[]⟩) := cell_of_row _ _ _ _ _ _ hh
  have hr := root_at hh
  have HR := Lib.hid hr
  have HH := Lib.hid hh
  clear hr hh
  go_enter Tryd.func24, Tryd.ntmps24
  go_wp2_with (refine wpList_load_mid rfl 35 _ rfl w.heap.size 6 rfl zero32 _ HR.out Tryd.underlying35 rfl (by kernel_rfl) ?_)
  all_goals (go_ret; exact ⟨rfl, (by repeat (first | exact Below.refl _ _ | assumption | refine bdrew1 ?_ | refine bdrew _ ?_ | refine ball ?_ _ | (apply bset; (show _ ≤ _; omega)) | (apply bthen'; rotate_left; assumption)))⟩)

end Go.Proofs.YtkikhoppbchheaaDoor
