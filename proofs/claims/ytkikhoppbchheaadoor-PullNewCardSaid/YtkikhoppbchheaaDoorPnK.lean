/- Walks for PullNew: the document's pull says. -/
import Derived.Test.YtkikhoppbchheaaDoorPnJ
import Derived.Laws.OwnMore
namespace Go.Proofs.YtkikhoppbchheaaDoor
open Go Go.RowKit
section
variable {P : Program} {ops : Array Oper} {o : Oper} {a : Act} {w : World} {Q : Exit → Act → World → Prop}
theorem wp_append_none {K : Act → World → Prop} (s x : Operand) (t : TypeId) (ho : o.op = .call { callee := .builtin .append, args := #[s, x], argTypes := #[t, t] })
    (base : Nat) (e : TypeId) (i : TypeInfo) (size : Nat) (ht : P.underlying t = some (.slice e)) (hi : P.info? e = some i)
    (v : Value) (n : Nat) (xs : List Value) (hs : a.eval s = v) (hown : w.ownsRow base e size v n xs) (hx : a.eval x = .slice none 0 0) (h : K (a.put o.dst v) w) : o.wp P a w K Q := by
  have hr := run_append_owned_none (P := P) (w := w) base t o.type e i size ht hi v n xs hown
  unfold Oper.wp execOp
  simp only [ho, resolve, invoke, builtin, Sem.run_bind, Sem.run_pure, Result.andThen_ok, List.map_toArray, List.map_cons, List.map_nil, hs, hx, hr]
  exact h
theorem run_load_row {f : Operand → Value} (ty : TypeId) (x : Operand) (ho : o.op = .load ty x) (g : Nat) (hx : f x = .pointer (some ⟨g, 0, none⟩)) (t : TypeId) (cs : Array Value) (fr : Nat × Nat) (d : TypeDesc)
    (hu : P.underlying ty = some d) (hd : (match d with | .struct _ | .array _ _ => true | _ => false) = true) (hi : (P.info? ty).map (·.size) = some cs.size) (hg : w.heap[g]? = some (.cells cs t fr)) :
    (execOp f o).run P w = .ok (.value (.agg cs)) w := by
  unfold execOp
  simp only [ho, hx, Instr.loadAt, Instr.sureAddr, Sem.run_bind, Sem.run_pure, Result.andThen_ok, run_loadVar_row (P := P) w g t ty cs fr d hg hu hd hi]
theorem run_append_nn {f : Operand → Value} (s x : Operand) (t : TypeId) (ho : o.op = .call { callee := .builtin .append, args := #[s, x], argTypes := #[t, t] })
    (e : TypeId) (i : TypeInfo) (ht : P.underlying t = some (.slice e)) (hi : P.info? e = some i) (ad : Addr) (hs : f s = .slice (some ad) 0 0) (hx : f x = .slice none 0 0) :
    (execOp f o).run P w = .ok (.value (.slice (some ad) 0 0)) w := by
  unfold execOp
  simp [ho, hs, hx, resolve, invoke, builtin, Builtin.append_, run_underlying ht, sizeOf, typeInfo, hi, Builtin.lenOf, Builtin.firstCells, storeCells]
end
theorem bs33n : ∀ w, (Instr.buildSlice 33 0 #[]).run Tryd.prog w = .ok (.slice (some ⟨w.heap.size, 0, none⟩) 0 0) (w.alloc (.cells #[] 38)) := fun _ => by kernel_rfl
theorem own_empty (w : World) (base g : Nat) (h : w.heap[g]? = some (.cells #[] 38 (0, 0))) (hb : base ≤ g) : w.ownsRow base 38 41 (.slice (some ⟨g, 0, none⟩) 0 0) 0 [] :=
  ⟨by simp, .inr ⟨g, 0, #[], rfl, hb, h, by omega, by simp [maxLen], rfl, rfl⟩⟩
theorem grownBy_setRow (w : World) (g : Nat) (c : Array Value) : w.grownBy (w.setRow g c) (some g) := ⟨rfl, rfl, rfl, Nat.le_of_eq (size_setRow w g c).symm, fun k _ hn => heap_setRow_other w g k c (fun e => hn (by rw [e]))⟩
set_option maxRecDepth 100000 in
set_option maxHeartbeats 800000 in
theorem rsay_calls (a b s : Int) (on : Bool) (t2 : Int) (w : World) :
    Calls Tryd.prog 17 #[.agg (refC a b s on t2 (.slice none 0 0))] w fun e w' => Below w.heap.size w w' ∧ ∃ v', e = .returned (.agg (refC a b s on t2 v')) ∧ w'.ownsRow w.heap.size 38 41 v' 1 (askM 1 a b s).toList := by
  obtain ⟨hz, hs⟩ := zero_of_info info43
  obtain ⟨hz8, hs8⟩ := zero_of_info info38
  obtain ⟨i0, hi, hz0, hz1, hz2⟩ := info_parts info38b
  go_enter Tryd.func17, Tryd.ntmps17
  have HH := Lib.hid (heap_alloc_last w (.cells (refC a b s on t2 (.slice none 0 0)) 43))
  have HH0 := Lib.hid ((heap_alloc_old (w.alloc (.cells (refC a b s on t2 (.slice none 0 0)) 43)) (.cells (refC 0 0 0 false 0 (.slice none 0 0)) 43) (by simp)).trans HH.out)
  have HS := Lib.hid hs
  have HS8 := Lib.hid hs8
  clear hs hs8
  go_wp2_with (refine wpList_load_row rfl 43 _ rfl w.heap.size rfl 43 (refC a b s on t2 (.slice none 0 0)) (0, 0) _ HH0.out Tryd.underlying43 rfl HS.out ?_)
  have hg0 := HH0.out
  have hg1 := heap_alloc_last (w.alloc (.cells (refC a b s on t2 (.slice none 0 0)) 43)) (.cells (refC 0 0 0 false 0 (.slice none 0 0)) 43)
  have hsz : ((w.alloc (.cells (refC a b s on t2 (.slice none 0 0)) 43)).alloc (.cells (refC 0 0 0 false 0 (.slice none 0 0)) 43)).heap.size = w.heap.size + 2 := by simp
  have hB0 : Below w.heap.size w ((w.alloc (.cells (refC a b s on t2 (.slice none 0 0)) 43)).alloc (.cells (refC 0 0 0 false 0 (.slice none 0 0)) 43)) := (by repeat (first | exact Below.refl _ _ | assumption | refine bdrew1 ?_ | refine bdrew _ ?_ | refine ball ?_ _ | (apply bset; (show _ ≤ _; omega)) | (apply bthen'; rotate_left; assumption)))
  rw [World.size_alloc] at hg1
  clear HH0 HH
  generalize ((w.alloc (.cells (refC a b s on t2 (.slice none 0 0)) 43)).alloc (.cells (refC 0 0 0 false 0 (.slice none 0 0)) 43)) = W0 at *
  refine (rask_calls a b s on t2 _ W0).mono ?_
  rintro e W1 ⟨rfl, hb1⟩
  have hs1 := hb1.size
  have HR1 := Lib.hid ((hb1.block w.heap.size (by omega)).trans hg0)
  have HZ1 := Lib.hid ((hb1.block (w.heap.size + 1) (by omega)).trans hg1)
  have HB1 := Lib.hid (hB0.trans (hb1.mono (by omega)))
  have HM2 := Lib.hid (heap_alloc_last W1 (.cells (askM 0 0 0 0) 38))
  have hlt : w.heap.size + 2 ≤ W1.heap.size := by omega
  clear hb1 hg0 hg1 hB0 hsz hs1
  have c5 : (W1.alloc (.cells (askM 1 a b s) 38)).cell? ⟨w.heap.size, 5, none⟩ = some (.int .i64 0) := (World.cell?_alloc_lt _ _ _ (show w.heap.size < W1.heap.size by omega)).trans (cell_of_row _ _ _ _ _ _ HR1.out)
  go_wp2_with (refine wpList_store_blk rfl 38 _ _ rfl W1.heap.size rfl (askM 1 a b s) rfl 38 (askM 0 0 0 0) HM2.out HS8.out rfl (askM_one ..) ?_; rw [World.setRow_alloc_new])
  have HR2 := Lib.hid ((heap_alloc_old W1 (.cells (askM 1 a b s) 38) (show w.heap.size < W1.heap.size by omega)).trans HR1.out)
  have HZ2 := Lib.hid ((heap_alloc_old W1 (.cells (askM 1 a b s) 38) (show w.heap.size + 1 < W1.heap.size by omega)).trans HZ1.out)
  have HB2 := Lib.hid (ball HB1.out (.cells (askM 1 a b s) 38))
  have HM3 := Lib.hid (heap_alloc_last W1 (.cells (askM 1 a b s) 38))
  have hls : (W1.alloc (.cells (askM 1 a b s) 38)).heap.size = W1.heap.size + 1 := by simp
  clear HR1 HZ1 HB1 HM2 c5
  generalize hgm : W1.heap.size = gm at *
  generalize (W1.alloc (.cells (askM 1 a b s) 38)) = W2 at *
  have c9 : W2.cell? ⟨w.heap.size, 9, none⟩ = some (.slice none 0 0) := cell_of_row _ _ _ _ _ _ HR2.out
  refine wp_region_good (L := 8) (fun w' => w'.cell? ⟨w.heap.size, 9, none⟩ = some (.slice none 0 0) ∧ w'.heap[gm]? = some (.cells (askM 1 a b s) 38)) (by kernel_rfl) (good_seq (by kernel_rfl) (good_two (i := 0) (j := 5) (good_seq (by kernel_rfl) good_end [(3, true), (5, false), (6, false), (7, true), (8, false)]) (good_seq (by kernel_rfl) good_end [(0, false), (3, true), (6, false), (7, true), (8, false)])) [(1, true), (2, true), (4, true)]) (by kernel_rfl) ⟨c9, HM3.out⟩ ?_
  repeat (first
    | (apply held_det
       · rfl
       · first | rfl | (simp [Region.wanted, yielded, *]; done)
       · (intro w' hS; obtain ⟨hS0, hS1⟩ := hS; go_simp; first | done | exact rfl)
       simp only [Act.put, List.set_cons_zero, List.set_cons_succ, List.setIfInBounds_toArray])
    | (apply held_skip
       · rfl
       · first | rfl | (simp [Region.wanted, yielded, *]; done)
       simp only [Act.put, List.set_cons_zero, List.set_cons_succ, List.setIfInBounds_toArray]))
  apply held_det
  · rfl
  · rfl
  · intro w' hS'
    exact run_load_row 38 _ rfl gm rfl 38 (askM 1 a b s) (0, 0) _ Tryd.underlying38 rfl HS8.out hS'.2
  try simp only [Act.put, List.set_cons_zero, List.set_cons_succ, List.setIfInBounds_toArray]
  refine held_nil ⟨?_, ?_⟩
  · apply nd_go
    · rfl
    · rfl
    intro k hk
    refine wp_buildSlice 33 0 _ rfl #[] (by simp) _ _ (bs33n _) ?_
    refine hk _ _ ⟨fun _ => ⟨(World.cell?_alloc_lt _ _ _ (by simp; omega)).trans c9, (heap_alloc_old _ _ (by simp; omega)).trans HM3.out⟩, ?_⟩
    clear hk k
    try simp only [Act.put, List.set_cons_zero, List.set_cons_succ, List.setIfInBounds_toArray, World.size_alloc, show W2.drew.heap = W2.heap from rfl, hls]
    apply held_det
    · rfl
    · rfl
    · intro w' _
      exact run_append_nn _ _ 33 rfl 38 i0 Tryd.underlying33 hi ⟨gm + 1, 0, none⟩ rfl rfl
    try simp only [Act.put, List.set_cons_zero, List.set_cons_succ, List.setIfInBounds_toArray]
    apply held_nd
    · rfl
    · rfl
    intro k hk
    refine wp_buildSlice 33 1 _ rfl #[(0, .agg (askM 1 a b s))] (by simp [Act.eval]) _ _ (bs33 1 a b s _) ?_
    try simp only [World.size_alloc, show W2.drew.heap = W2.heap from rfl, hls]
    have hXs : ((W2.drew.alloc (Obj.cells #[] 38)).alloc (Obj.cells (askM 1 a b s) 38)).heap.size = gm + 3 := by simp; omega
    have HXE := Lib.hid (show ((W2.drew.alloc (Obj.cells #[] 38)).alloc (Obj.cells (askM 1 a b s) 38)).heap[gm + 1]? = some (.cells #[] 38) from by rw [← hls]; exact (heap_alloc_old _ _ (by simp)).trans (heap_alloc_last _ _))
    have HXM := Lib.hid (show ((W2.drew.alloc (Obj.cells #[] 38)).alloc (Obj.cells (askM 1 a b s) 38)).heap[gm + 1 + 1]? = some (.cells (askM 1 a b s) 38) from by rw [← hls]; exact heap_alloc2_new W2.drew _ _)
    have HXR := Lib.hid (show ((W2.drew.alloc (Obj.cells #[] 38)).alloc (Obj.cells (askM 1 a b s) 38)).heap[w.heap.size]? = some _ from (heap_alloc_old _ _ (by simp; omega)).trans ((heap_alloc_old _ _ (by simp; omega)).trans HR2.out))
    have HXZ := Lib.hid (show ((W2.drew.alloc (Obj.cells #[] 38)).alloc (Obj.cells (askM 1 a b s) 38)).heap[w.heap.size + 1]? = some _ from (heap_alloc_old _ _ (by simp; omega)).trans ((heap_alloc_old _ _ (by simp; omega)).trans HZ2.out))
    have HXG := Lib.hid (show ((W2.drew.alloc (Obj.cells #[] 38)).alloc (Obj.cells (askM 1 a b s) 38)).heap[gm]? = some _ from (heap_alloc_old _ _ (by simp; omega)).trans ((heap_alloc_old _ _ (by simp; omega)).trans HM3.out))
    have HXB := Lib.hid (show Below w.heap.size w ((W2.drew.alloc (Obj.cells #[] 38)).alloc (Obj.cells (askM 1 a b s) 38)) from ball (ball (bdrew1 HB2.out) _) _)
    have hXc : ((W2.drew.alloc (Obj.cells #[] 38)).alloc (Obj.cells (askM 1 a b s) 38)).cell? ⟨w.heap.size, 9, none⟩ = some (.slice none 0 0) := cell_of_row _ _ _ _ _ _ HXR.out
    refine hk _ _ ⟨fun _ => ⟨hXc, HXG.out⟩, ?_⟩
    clear hk k HR2 HZ2 HB2 HM3 c9
    generalize ((W2.drew.alloc (Obj.cells #[] 38)).alloc (Obj.cells (askM 1 a b s) 38)) = X at *
    try simp only [Act.put, List.set_cons_zero, List.set_cons_succ, List.setIfInBounds_toArray]
    repeat (first
      | (apply held_det
         · rfl
         · first | rfl | (simp [Region.wanted, yielded, *]; done)
         · (intro w' hS; obtain ⟨hS0, hS1⟩ := hS; go_simp; first | done | exact rfl)
         simp only [Act.put, List.set_cons_zero, List.set_cons_succ, List.setIfInBounds_toArray])
      | (apply held_skip
         · rfl
         · first | rfl | (simp [Region.wanted, yielded, *]; done)
         simp only [Act.put, List.set_cons_zero, List.set_cons_succ, List.setIfInBounds_toArray]))
    apply held_nd
    · rfl
    · rfl
    intro k hk
    refine wp_append_own _ _ 33 rfl w.heap.size 38 i0 _ 41 152 Tryd.underlying33 hi hz0 hz1 hz2 rfl (by omega) (.slice (some ⟨gm + 1, 0, none⟩) 0 0) 0 [] rfl (own_empty X w.heap.size _ HXE.out (by omega)) ⟨gm + 1 + 1, 0, none⟩ 1 1 (askM 1 a b s).toList rfl rfl
      (World.news_of_block (cs := askM 1 a b s) (t := 38) (fr := (0, 0)) HXM.out) (by simp [askM, Value.oneCell']) (by simp [maxLen]) (by omega) (by omega) ?_
    intro v2 W3 hown2 hgr _ hat
    have HR3 := Lib.hid ((hgr.block w.heap.size (by omega) (by simp [Value.ownBlock] <;> omega)).trans HXR.out)
    have HZ3 := Lib.hid ((hgr.block (w.heap.size + 1) (by omega) (by simp [Value.ownBlock] <;> omega)).trans HXZ.out)
    have HM4 := Lib.hid ((hgr.block gm (by omega) (by simp [Value.ownBlock] <;> omega)).trans HXG.out)
    have HB3 := Lib.hid (HXB.out.grown hgr (by omega) (fun k hk => by simp [Value.ownBlock] at hk; omega))
    have hne2 : ∃ g2 cap2, v2 = .slice (some ⟨g2, 0, none⟩) 1 cap2 ∧ w.heap.size + 2 ≤ g2 := by
      obtain ⟨g2, cap2, rfl, _, _⟩ := hown2.form (by omega)
      refine ⟨g2, cap2, rfl, ?_⟩
      rcases hat with e | e <;> simp [Value.ownBlock] at e <;> omega
    obtain ⟨g2, cap2, rfl, hg2⟩ := hne2
    have hs0 : W3.cell? ⟨w.heap.size, 9, none⟩ = some (.slice none 0 0) := cell_of_row _ _ _ _ _ _ HR3.out
    have f9 : W3.frozen? ⟨w.heap.size, 9, none⟩ = false := frozen_of_row _ _ _ _ _ HR3.out
    clear hgr hat HXR HXZ HXB HXM HXE HXG
    refine hk _ _ ⟨fun _ => ⟨hs0, HM4.out⟩, ?_⟩
    clear hk k
    try simp only [Act.put, List.set_cons_zero, List.set_cons_succ, List.setIfInBounds_toArray, World.size_alloc, show W2.drew.heap = W2.heap from rfl, hls]
    repeat (first
      | (apply held_det
         · rfl
         · first | rfl | (simp [Region.wanted, yielded, *]; done)
         · (intro w' hS; obtain ⟨hS0, hS1⟩ := hS; go_simp; first | done | exact rfl)
         simp only [Act.put, List.set_cons_zero, List.set_cons_succ, List.setIfInBounds_toArray])
      | (apply held_skip
         · rfl
         · first | rfl | (simp [Region.wanted, yielded, *]; done)
         simp only [Act.put, List.set_cons_zero, List.set_cons_succ, List.setIfInBounds_toArray]))
    apply held_nd
    · rfl
    · rfl
    intro k hk
    go_wp2_with fail
    refine ⟨fun h => absurd rfl h, held_nil ?_⟩
    have HE0 := Lib.hid (show (W3.setCell ⟨w.heap.size, 9, none⟩ (.slice (some ⟨g2, 0, none⟩) 1 cap2)).heap[w.heap.size]? = some (.cells (refC a b s on t2 (.slice (some ⟨g2, 0, none⟩) 1 cap2)) 43) from heap_setCell_same W3 _ 9 _ _ _ HR3.out)
    have HE1 := Lib.hid ((Below.heap_setCell W3 ⟨w.heap.size, 9, none⟩ (.slice (some ⟨g2, 0, none⟩) 1 cap2) (w.heap.size + 1) (by simp)).trans HZ3.out)
    have HB4 := Lib.hid (HB3.out.setCell (p := ⟨w.heap.size, 9, none⟩) (Nat.le_refl _) (.slice (some ⟨g2, 0, none⟩) 1 cap2))
    have HO4 := Lib.hid (own_setCell hown2 (p := ⟨w.heap.size, 9, none⟩) (by simp [Value.ownBlock] <;> omega) (.slice (some ⟨g2, 0, none⟩) 1 cap2))
    clear hown2 HR3 HZ3 HB3 HM4 hs0 f9
    generalize (W3.setCell ⟨w.heap.size, 9, none⟩ (.slice (some ⟨g2, 0, none⟩) 1 cap2)) = W4 at *
    go_wp2_with (first | (refine wpList_load_row rfl 43 _ rfl w.heap.size rfl 43 (refC a b s on t2 (.slice (some ⟨g2, 0, none⟩) 1 cap2)) (0, 0) _ HE0.out Tryd.underlying43 rfl HS.out ?_) | (refine wpList_store_blk rfl 43 _ _ rfl (w.heap.size + 1) rfl (refC a b s on t2 (.slice (some ⟨g2, 0, none⟩) 1 cap2)) rfl 43 (refC 0 0 0 false 0 (.slice none 0 0)) HE1.out HS.out rfl (refC_one ..) ?_))
    have hgr : W4.grownBy (W4.setRow (w.heap.size + 1) (refC a b s on t2 (.slice (some ⟨g2, 0, none⟩) 1 cap2))) (some (w.heap.size + 1)) := grownBy_setRow _ _ _
    refine bodyPost_ret (results_cell_row rfl _ _ (w.heap.size + 1) 43 (refC a b s on t2 (.slice (some ⟨g2, 0, none⟩) 1 cap2)) (0, 0) _ rfl (heap_setRow_same HE1.out _) Tryd.underlying43 rfl HS.out) rfl ⟨HB4.out.grown hgr HB4.out.size (fun k hk => by simp at hk; omega), _, rfl, HO4.out.kept hgr (.inr (by simp [Value.ownBlock] <;> omega))⟩
  · apply nd_go
    · rfl
    · rfl
    intro k hk
    refine wp_buildSlice 33 1 _ rfl #[(0, .agg (askM 1 a b s))] (by simp [Act.eval]) _ _ (bs33 1 a b s _) ?_
    refine hk _ _ ⟨fun _ => ⟨(World.cell?_alloc_lt _ _ _ (by simp; omega)).trans c9, (heap_alloc_old _ _ (by simp; omega)).trans HM3.out⟩, ?_⟩
    clear hk k
    try simp only [Act.put, List.set_cons_zero, List.set_cons_succ, List.setIfInBounds_toArray, World.size_alloc, show W2.drew.heap = W2.heap from rfl, hls]
    apply held_nd
    · rfl
    · rfl
    intro k hk
    refine wp_buildSlice 33 0 _ rfl #[] (by simp) _ _ (bs33n _) ?_
    try simp only [World.size_alloc, show W2.drew.heap = W2.heap from rfl, hls]
    have hXs : ((W2.drew.alloc (Obj.cells (askM 1 a b s) 38)).alloc (Obj.cells #[] 38)).heap.size = gm + 3 := by simp; omega
    have HXE := Lib.hid (show ((W2.drew.alloc (Obj.cells (askM 1 a b s) 38)).alloc (Obj.cells #[] 38)).heap[gm + 1 + 1]? = some (.cells #[] 38) from by rw [← hls]; exact heap_alloc2_new W2.drew _ _)
    have HXM := Lib.hid (show ((W2.drew.alloc (Obj.cells (askM 1 a b s) 38)).alloc (Obj.cells #[] 38)).heap[gm + 1]? = some (.cells (askM 1 a b s) 38) from by rw [← hls]; exact (heap_alloc_old _ _ (by simp)).trans (heap_alloc_last _ _))
    have HXR := Lib.hid (show ((W2.drew.alloc (Obj.cells (askM 1 a b s) 38)).alloc (Obj.cells #[] 38)).heap[w.heap.size]? = some _ from (heap_alloc_old _ _ (by simp; omega)).trans ((heap_alloc_old _ _ (by simp; omega)).trans HR2.out))
    have HXZ := Lib.hid (show ((W2.drew.alloc (Obj.cells (askM 1 a b s) 38)).alloc (Obj.cells #[] 38)).heap[w.heap.size + 1]? = some _ from (heap_alloc_old _ _ (by simp; omega)).trans ((heap_alloc_old _ _ (by simp; omega)).trans HZ2.out))
    have HXG := Lib.hid (show ((W2.drew.alloc (Obj.cells (askM 1 a b s) 38)).alloc (Obj.cells #[] 38)).heap[gm]? = some _ from (heap_alloc_old _ _ (by simp; omega)).trans ((heap_alloc_old _ _ (by simp; omega)).trans HM3.out))
    have HXB := Lib.hid (show Below w.heap.size w ((W2.drew.alloc (Obj.cells (askM 1 a b s) 38)).alloc (Obj.cells #[] 38)) from ball (ball (bdrew1 HB2.out) _) _)
    have hXc : ((W2.drew.alloc (Obj.cells (askM 1 a b s) 38)).alloc (Obj.cells #[] 38)).cell? ⟨w.heap.size, 9, none⟩ = some (.slice none 0 0) := cell_of_row _ _ _ _ _ _ HXR.out
    refine hk _ _ ⟨fun _ => ⟨hXc, HXG.out⟩, ?_⟩
    clear hk k HR2 HZ2 HB2 HM3 c9
    generalize ((W2.drew.alloc (Obj.cells (askM 1 a b s) 38)).alloc (Obj.cells #[] 38)) = X at *
    try simp only [Act.put, List.set_cons_zero, List.set_cons_succ, List.setIfInBounds_toArray]
    apply held_det
    · rfl
    · rfl
    · intro w' _
      exact run_append_nn _ _ 33 rfl 38 i0 Tryd.underlying33 hi ⟨gm + 1 + 1, 0, none⟩ rfl rfl
    try simp only [Act.put, List.set_cons_zero, List.set_cons_succ, List.setIfInBounds_toArray]
    repeat (first
      | (apply held_det
         · rfl
         · first | rfl | (simp [Region.wanted, yielded, *]; done)
         · (intro w' hS; obtain ⟨hS0, hS1⟩ := hS; go_simp; first | done | exact rfl)
         simp only [Act.put, List.set_cons_zero, List.set_cons_succ, List.setIfInBounds_toArray])
      | (apply held_skip
         · rfl
         · first | rfl | (simp [Region.wanted, yielded, *]; done)
         simp only [Act.put, List.set_cons_zero, List.set_cons_succ, List.setIfInBounds_toArray]))
    apply held_nd
    · rfl
    · rfl
    intro k hk
    refine wp_append_own _ _ 33 rfl w.heap.size 38 i0 _ 41 152 Tryd.underlying33 hi hz0 hz1 hz2 rfl (by omega) (.slice (some ⟨gm + 1 + 1, 0, none⟩) 0 0) 0 [] rfl (own_empty X w.heap.size _ HXE.out (by omega)) ⟨gm + 1, 0, none⟩ 1 1 (askM 1 a b s).toList rfl rfl
      (World.news_of_block (cs := askM 1 a b s) (t := 38) (fr := (0, 0)) HXM.out) (by simp [askM, Value.oneCell']) (by simp [maxLen]) (by omega) (by omega) ?_
    intro v2 W3 hown2 hgr _ hat
    have HR3 := Lib.hid ((hgr.block w.heap.size (by omega) (by simp [Value.ownBlock] <;> omega)).trans HXR.out)
    have HZ3 := Lib.hid ((hgr.block (w.heap.size + 1) (by omega) (by simp [Value.ownBlock] <;> omega)).trans HXZ.out)
    have HM4 := Lib.hid ((hgr.block gm (by omega) (by simp [Value.ownBlock] <;> omega)).trans HXG.out)
    have HB3 := Lib.hid (HXB.out.grown hgr (by omega) (fun k hk => by simp [Value.ownBlock] at hk; omega))
    have hne2 : ∃ g2 cap2, v2 = .slice (some ⟨g2, 0, none⟩) 1 cap2 ∧ w.heap.size + 2 ≤ g2 := by
      obtain ⟨g2, cap2, rfl, _, _⟩ := hown2.form (by omega)
      refine ⟨g2, cap2, rfl, ?_⟩
      rcases hat with e | e <;> simp [Value.ownBlock] at e <;> omega
    obtain ⟨g2, cap2, rfl, hg2⟩ := hne2
    have hs0 : W3.cell? ⟨w.heap.size, 9, none⟩ = some (.slice none 0 0) := cell_of_row _ _ _ _ _ _ HR3.out
    have f9 : W3.frozen? ⟨w.heap.size, 9, none⟩ = false := frozen_of_row _ _ _ _ _ HR3.out
    clear hgr hat HXR HXZ HXB HXM HXE HXG
    refine hk _ _ ⟨fun _ => ⟨hs0, HM4.out⟩, ?_⟩
    clear hk k
    try simp only [Act.put, List.set_cons_zero, List.set_cons_succ, List.setIfInBounds_toArray, World.size_alloc, show W2.drew.heap = W2.heap from rfl, hls]
    repeat (first
      | (apply held_det
         · rfl
         · first | rfl | (simp [Region.wanted, yielded, *]; done)
         · (intro w' hS; obtain ⟨hS0, hS1⟩ := hS; go_simp; first | done | exact rfl)
         simp only [Act.put, List.set_cons_zero, List.set_cons_succ, List.setIfInBounds_toArray])
      | (apply held_skip
         · rfl
         · first | rfl | (simp [Region.wanted, yielded, *]; done)
         simp only [Act.put, List.set_cons_zero, List.set_cons_succ, List.setIfInBounds_toArray]))
    apply held_nd
    · rfl
    · rfl
    intro k hk
    go_wp2_with fail
    refine ⟨fun h => absurd rfl h, held_nil ?_⟩
    have HE0 := Lib.hid (show (W3.setCell ⟨w.heap.size, 9, none⟩ (.slice (some ⟨g2, 0, none⟩) 1 cap2)).heap[w.heap.size]? = some (.cells (refC a b s on t2 (.slice (some ⟨g2, 0, none⟩) 1 cap2)) 43) from heap_setCell_same W3 _ 9 _ _ _ HR3.out)
    have HE1 := Lib.hid ((Below.heap_setCell W3 ⟨w.heap.size, 9, none⟩ (.slice (some ⟨g2, 0, none⟩) 1 cap2) (w.heap.size + 1) (by simp)).trans HZ3.out)
    have HB4 := Lib.hid (HB3.out.setCell (p := ⟨w.heap.size, 9, none⟩) (Nat.le_refl _) (.slice (some ⟨g2, 0, none⟩) 1 cap2))
    have HO4 := Lib.hid (own_setCell hown2 (p := ⟨w.heap.size, 9, none⟩) (by simp [Value.ownBlock] <;> omega) (.slice (some ⟨g2, 0, none⟩) 1 cap2))
    clear hown2 HR3 HZ3 HB3 HM4 hs0 f9
    generalize (W3.setCell ⟨w.heap.size, 9, none⟩ (.slice (some ⟨g2, 0, none⟩) 1 cap2)) = W4 at *
    go_wp2_with (first | (refine wpList_load_row rfl 43 _ rfl w.heap.size rfl 43 (refC a b s on t2 (.slice (some ⟨g2, 0, none⟩) 1 cap2)) (0, 0) _ HE0.out Tryd.underlying43 rfl HS.out ?_) | (refine wpList_store_blk rfl 43 _ _ rfl (w.heap.size + 1) rfl (refC a b s on t2 (.slice (some ⟨g2, 0, none⟩) 1 cap2)) rfl 43 (refC 0 0 0 false 0 (.slice none 0 0)) HE1.out HS.out rfl (refC_one ..) ?_))
    have hgr : W4.grownBy (W4.setRow (w.heap.size + 1) (refC a b s on t2 (.slice (some ⟨g2, 0, none⟩) 1 cap2))) (some (w.heap.size + 1)) := grownBy_setRow _ _ _
    refine bodyPost_ret (results_cell_row rfl _ _ (w.heap.size + 1) 43 (refC a b s on t2 (.slice (some ⟨g2, 0, none⟩) 1 cap2)) (0, 0) _ rfl (heap_setRow_same HE1.out _) Tryd.underlying43 rfl HS.out) rfl ⟨HB4.out.grown hgr HB4.out.size (fun k hk => by simp at hk; omega), _, rfl, HO4.out.kept hgr (.inr (by simp [Value.ownBlock] <;> omega))⟩
