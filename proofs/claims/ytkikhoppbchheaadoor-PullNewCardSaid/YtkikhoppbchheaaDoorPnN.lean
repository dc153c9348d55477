/- Walks for PullNew: the same words. -/
import Derived.Test.YtkikhoppbchheaaDoorPnM
namespace Go.Proofs.YtkikhoppbchheaaDoor
open Go Go.RowKit
set_option maxHeartbeats 400000 in
theorem sameAll_nil (w : World) : Calls Tryd.prog 6 #[.slice none 0 0, .slice none 0 0] w fun e w' => e = .returned (.bool true) ∧ w = w' := by
  go_enter Tryd.func6, Tryd.ntmps6
  go_wp2_with fail
  go_rounds 1
  go_ret
  exact ⟨rfl, rfl⟩
theorem run_load_mid_op {P : Program} {op : Oper} {f : Operand → Value} {w : World} (ty : TypeId) (x : Operand) (ho : op.op = .load ty x)
    (b o : Nat) (hx : f x = .pointer (some ⟨b, o, none⟩)) (cs : List Value) (d : TypeDesc) (hc : w.rangeAt b o cs)
    (hu : P.underlying ty = some d) (hd : d.isRow = true) (hi : (P.info? ty).map (·.size) = some cs.length) : (execOp f op).run P w = .ok (.value (.agg cs.toArray)) w := by
  unfold execOp
  simp only [ho, hx, Instr.loadAt, Instr.sureAddr, Sem.run_bind, Sem.run_pure, Result.andThen_ok, run_loadVar_mid w b o ty cs d hc hu hd hi]
theorem rangeAt_below {W W' : World} {b o : Nat} {cs : List Value} {B : Nat} (h : W.rangeAt b o cs) (hb : Below B W W') (hlt : b < B) : W'.rangeAt b o cs := by
  exact fun j v hv => (hb.cell (p := ⟨b, o + j, none⟩) hlt).trans (h j v hv)
set_option maxRecDepth 100000 in
set_option maxHeartbeats 800000 in
theorem sameAll_one (a b s : Int) (A B cA cB : Nat) (w : World) (hA : w.rangeAt A 0 (askM 1 a b s).toList) (hB : w.rangeAt B 0 (askM 1 a b s).toList) (lA : A < w.heap.size) (lB : B < w.heap.size) :
    Calls Tryd.prog 6 #[.slice (some ⟨A, 0, none⟩) 1 cA, .slice (some ⟨B, 0, none⟩) 1 cB] w fun e w' => e = .returned (.bool true) ∧ Below w.heap.size w w' := by
  obtain ⟨hz, hs⟩ := zero_of_info info38
  have HS := Lib.hid (show (Tryd.prog.info? 38).map (·.size) = some (askM 1 a b s).toList.length from hs)
  clear hs
  go_enter Tryd.func6, Tryd.ntmps6
  go_wp2_with fail
  have hA0 := Lib.hid hA
  have hB0 := Lib.hid hB
  clear hA hB
  go_loopw [5] (fun i wr => ∃ k : Nat, k ≤ 1 ∧ i = .int .i64 k ∧ Below w.heap.size w wr) (fun i _ => 1 - (intOf i).toNat)
  case atStart => exact ⟨0, by omega, rfl, Below.refl _ _⟩
  case round =>
    obtain ⟨k, hk, rfl, hb⟩ := hrel
    have hA1 := Lib.hid (rangeAt_below hA0.out hb lA)
    have hB1 := Lib.hid (rangeAt_below hB0.out hb lB)
    obtain rfl | rfl : k = 0 ∨ k = 1 := by omega
    · go_wp2_with fail
      refine wp_region_seq (fun w' => w'.rangeAt A 0 (askM 1 a b s).toList ∧ w'.rangeAt B 0 (askM 1 a b s).toList) [(0, true), (1, true), (2, true), (3, true), (4, true), (5, true), (6, true), (7, true), (8, false), (9, true)] 10 (by kernel_rfl) (by kernel_rfl) ⟨hA1.out, hB1.out⟩ ?_
      repeat (first
        | (apply held_det
           · rfl
           · first | rfl | (simp [Region.wanted, yielded, *]; done)
           · (intro w' hS; obtain ⟨hS0, hS1⟩ := hS; go_simp; first | done | exact rfl)
           simp only [Act.put, List.set_cons_zero, List.set_cons_succ, List.setIfInBounds_toArray])
        | (apply held_skip
           · rfl
           · first | rfl | (simp [Region.wanted, yielded, *]; done)
           simp only [Act.put, List.set_cons_zero, List.set_cons_succ, List.setIfInBounds_toArray]))
      apply held_det
      · rfl
      · rfl
      · intro w' hS'
        exact run_load_mid_op 38 _ rfl A 0 rfl (askM 1 a b s).toList _ hS'.1 Tryd.underlying38 rfl HS.out
      try simp only [Act.put, List.set_cons_zero, List.set_cons_succ, List.setIfInBounds_toArray, Array.toArray_toList]
      repeat (first
        | (apply held_det
           · rfl
           · first | rfl | (simp [Region.wanted, yielded, *]; done)
           · (intro w' hS; obtain ⟨hS0, hS1⟩ := hS; go_simp; first | done | exact rfl)
           simp only [Act.put, List.set_cons_zero, List.set_cons_succ, List.setIfInBounds_toArray])
        | (apply held_skip
           · rfl
           · first | rfl | (simp [Region.wanted, yielded, *]; done)
           simp only [Act.put, List.set_cons_zero, List.set_cons_succ, List.setIfInBounds_toArray]))
      apply held_det
      · rfl
      · rfl
      · intro w' hS'
        exact run_load_mid_op 38 _ rfl B 0 rfl (askM 1 a b s).toList _ hS'.2 Tryd.underlying38 rfl HS.out
      try simp only [Act.put, List.set_cons_zero, List.set_cons_succ, List.setIfInBounds_toArray, Array.toArray_toList]
      apply held_nd
      · rfl
      · rfl
      intro k hk
      go_wp2_with fail
      refine (same12 a b s _).mono ?_
      rintro e W1 ⟨rfl, hb1⟩
      have hb1 : Below wr.heap.size wr W1 := bthen' (bdrew1 (Below.refl _ _)) hb1
      have hsz := hb.size
      have hB1w : Below w.heap.size w W1 := bthen' hb hb1
      refine hk _ _ ⟨fun _ => ⟨rangeAt_below hA1.out hb1 (by omega), rangeAt_below hB1.out hb1 (by omega)⟩, ?_⟩
      clear hk k
      try simp only [Act.put, List.set_cons_zero, List.set_cons_succ, List.setIfInBounds_toArray]
      repeat (first
        | (apply held_det
           · rfl
           · first | rfl | (simp [Region.wanted, yielded, *]; done)
           · (intro w' hS; obtain ⟨hS0, hS1⟩ := hS; go_simp; first | done | exact rfl)
           simp only [Act.put, List.set_cons_zero, List.set_cons_succ, List.setIfInBounds_toArray])
        | (apply held_skip
           · rfl
           · first | rfl | (simp [Region.wanted, yielded, *]; done)
           simp only [Act.put, List.set_cons_zero, List.set_cons_succ, List.setIfInBounds_toArray]))
      refine held_nil ?_
      go_wp2_with fail
      refine ⟨⟨1, by omega, by go_num, hB1w⟩, by simp [intOf]⟩
    · go_wp2_with fail
      go_ret
      exact ⟨rfl, hb⟩
