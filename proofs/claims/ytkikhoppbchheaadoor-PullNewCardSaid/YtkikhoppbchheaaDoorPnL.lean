/- Walks for PullNew: the document's pull, new. -/
import Derived.Test.YtkikhoppbchheaaDoorPnK
namespace Go.Proofs.YtkikhoppbchheaaDoor
open Go Go.RowKit
section
variable {P : Program} {o : Oper} {w : World}
theorem run_build_op {f : Operand → Value} (t : TypeId) (parts : Array (Nat × Operand)) (ho : o.op = .build t parts) (ps : Array (Nat × Value)) (hps : (parts.map fun (i, x) => (i, f x)) = ps)
    (v : Value) (hr : (Instr.build t ps).run P w = .ok v w) : (execOp f o).run P w = .ok (.value v) w := by
  unfold execOp
  simp only [ho, hps, Sem.run_bind, hr, Result.andThen_ok, Sem.run_pure]
end
theorem own_mono {w : World} {base base' : Nat} {e : TypeId} {size n : Nat} {v : Value} {xs : List Value} (h : w.ownsRow base e size v n xs) (hb : base' ≤ base) : w.ownsRow base' e size v n xs :=
  ⟨h.1, h.2.imp id fun ⟨g, cap, cur, r⟩ => ⟨g, cap, cur, r.1, by omega, r.2.2⟩⟩
theorem bld43 (a b s : Int) : ∀ w, (Instr.build 43 #[(0, .int .i64 a), (1, .int .i64 b), (2, .int .i64 s), (3, .agg #[.slice none 0 0, .slice none 0 0]), (5, .agg #[.bool true, .int .i64 0, .int .i64 2])]).run Tryd.prog w = .ok (.agg (refC a b s true 2 (.slice none 0 0))) w := fun _ => by kernel_rfl
theorem bld43n : ∀ w, (Instr.build 43 #[]).run Tryd.prog w = .ok (.agg (refC 0 0 0 false 0 (.slice none 0 0))) w := fun _ => by kernel_rfl
set_option maxRecDepth 100000 in
set_option maxHeartbeats 800000 in
theorem rnew_calls (a b s : Int) (w : World) :
    Calls Tryd.prog 5 #[.int .i64 a, .int .i64 b, .int .i64 s, .agg #[.slice none 0 0, .slice none 0 0]] w fun e w' => Below w.heap.size w w' ∧
      ((chkF a b s ≠ 0 ∧ e = .returned (.tuple #[.agg (refC 0 0 0 false 0 (.slice none 0 0)), .bool false])) ∨
       (chkF a b s = 0 ∧ ∃ v, e = .returned (.tuple #[.agg (refC a b s true 2 v), .bool true]) ∧ w'.ownsRow w.heap.size 38 41 v 1 (askM 1 a b s).toList)) := by
  obtain ⟨hz, hs⟩ := zero_of_info info43
  have HS := Lib.hid hs
  clear hs
  go_enter Tryd.func5, Tryd.ntmps5
  go_wp2_with fail
  have hk0 : ((w.alloc (.cells #[.slice none 0 0, .slice none 0 0] 30)).alloc (.cells (refC 0 0 0 false 0 (.slice none 0 0)) 43)).heap[w.heap.size + 1]? = some (.cells (refC 0 0 0 false 0 (.slice none 0 0)) 43) := heap_alloc2_new w _ _
  have hs0 : ((w.alloc (.cells #[.slice none 0 0, .slice none 0 0] 30)).alloc (.cells (refC 0 0 0 false 0 (.slice none 0 0)) 43)).heap.size = w.heap.size + 2 := by simp
  have hB0 : Below w.heap.size w ((w.alloc (.cells #[.slice none 0 0, .slice none 0 0] 30)).alloc (.cells (refC 0 0 0 false 0 (.slice none 0 0)) 43)) := (by repeat (first | exact Below.refl _ _ | assumption | refine bdrew1 ?_ | refine bdrew _ ?_ | refine ball ?_ _ | (apply bset; (show _ ≤ _; omega)) | (apply bthen'; rotate_left; assumption)))
  have hc0 : ((w.alloc (.cells #[.slice none 0 0, .slice none 0 0] 30)).alloc (.cells (refC 0 0 0 false 0 (.slice none 0 0)) 43)).cell? ⟨w.heap.size, 0, none⟩ = some (.slice none 0 0) := by go_simp
  have hc1 : ((w.alloc (.cells #[.slice none 0 0, .slice none 0 0] 30)).alloc (.cells (refC 0 0 0 false 0 (.slice none 0 0)) 43)).cell? ⟨w.heap.size, 1, none⟩ = some (.slice none 0 0) := by go_simp
  generalize ((w.alloc (.cells #[.slice none 0 0, .slice none 0 0] 30)).alloc (.cells (refC 0 0 0 false 0 (.slice none 0 0)) 43)) = W0 at *
  have HK0 := Lib.hid hk0
  have HB0 := Lib.hid hB0
  clear hk0 hB0
  refine wp_region_good (L := 7) (fun w' => w'.cell? ⟨w.heap.size, 0, none⟩ = some (.slice none 0 0) ∧ w'.cell? ⟨w.heap.size, 1, none⟩ = some (.slice none 0 0)) (by kernel_rfl) (good_seq (by kernel_rfl) (good_two (i := 4) (j := 6) (good_seq (by kernel_rfl) good_end [(5, true), (6, false), (7, false)]) (good_seq (by kernel_rfl) good_end [(4, false), (5, true), (7, false)])) [(0, true), (1, true), (2, true), (3, true)]) (by kernel_rfl) ⟨hc0, hc1⟩ ?_
  repeat (first
    | (apply held_det
       · rfl
       · first | rfl | (simp [Region.wanted, yielded, *]; done)
       · (intro w' hS; obtain ⟨hS0, hS1⟩ := hS; go_simp; first | done | exact rfl)
       simp only [Act.put, List.set_cons_zero, List.set_cons_succ, List.setIfInBounds_toArray])
    | (apply held_skip
       · rfl
       · first | rfl | (simp [Region.wanted, yielded, *]; done)
       simp only [Act.put, List.set_cons_zero, List.set_cons_succ, List.setIfInBounds_toArray]))
  refine held_nil ⟨?_, ?_⟩
  · apply nd_go
    · rfl
    · rfl
    intro k hk
    go_wp2_with fail
    refine (rstart_calls _).mono ?_
    rintro e W1 ⟨rfl, hb1⟩
    have hb1 : Below W0.heap.size W0 W1 := bthen' (bdrew1 (Below.refl _ _)) hb1
    have hs1 := hb1.size
    have hd0 : W1.cell? ⟨w.heap.size, 0, none⟩ = some (.slice none 0 0) := ((bcell hb1).1 _ _ (by first | omega | (simp; done) | (simp; omega) | (dsimp only; omega))).trans hc0
    have hd1 : W1.cell? ⟨w.heap.size, 1, none⟩ = some (.slice none 0 0) := ((bcell hb1).1 _ _ (by first | omega | (simp; done) | (simp; omega) | (dsimp only; omega))).trans hc1
    have HK1 := Lib.hid ((hb1.block _ (by omega)).trans HK0.out)
    have HB1 := Lib.hid (HB0.out.trans (hb1.mono (by omega)))
    refine hk _ _ ⟨fun _ => ⟨hd0, hd1⟩, ?_⟩
    clear hk k hc0 hc1 HK0 HB0 hb1
    try simp only [Act.put, List.set_cons_zero, List.set_cons_succ, List.setIfInBounds_toArray]
    apply held_det
    · rfl
    · rfl
    · intro w' _
      exact run_build_op 43 _ rfl #[(0, .int .i64 a), (1, .int .i64 b), (2, .int .i64 s), (3, .agg #[.slice none 0 0, .slice none 0 0]), (5, .agg #[.bool true, .int .i64 0, .int .i64 2])] (by simp [Act.eval]) _ (bld43 a b s w')
    try simp only [Act.put, List.set_cons_zero, List.set_cons_succ, List.setIfInBounds_toArray]
    apply held_nd
    · rfl
    · rfl
    intro k hk
    go_wp2_with fail
    refine ⟨fun _ => ⟨(World.cell?_alloc_lt _ _ _ (by first | omega | (simp; done) | (simp; omega) | (dsimp only; omega))).trans hd0, (World.cell?_alloc_lt _ _ _ (by first | omega | (simp; done) | (simp; omega) | (dsimp only; omega))).trans hd1⟩, ?_⟩
    try simp only [Act.put, List.set_cons_zero, List.set_cons_succ, List.setIfInBounds_toArray]
    apply held_nd
    · rfl
    · rfl
    intro k hk
    refine wp_store_blk 43 _ _ rfl W1.heap.size rfl (refC a b s true 2 (.slice none 0 0)) rfl 43 (refC 0 0 0 false 0 (.slice none 0 0)) (heap_alloc_last _ _) HS.out rfl (refC_one ..) ?_
    rw [World.setRow_alloc_new]
    refine hk _ _ ⟨fun h => absurd rfl h, held_nil ?_⟩
    clear hk k hd0 hd1
    have HP := Lib.hid (heap_alloc_last W1 (.cells (refC a b s true 2 (.slice none 0 0)) 43))
    have HK := Lib.hid ((heap_alloc_old W1 (.cells (refC a b s true 2 (.slice none 0 0)) 43) (by omega)).trans HK1.out)
    have HB := Lib.hid (ball HB1.out (.cells (refC a b s true 2 (.slice none 0 0)) 43))
    have hsz : (W1.alloc (.cells (refC a b s true 2 (.slice none 0 0)) 43)).heap.size = W1.heap.size + 1 := by simp
    generalize (W1.alloc (.cells (refC a b s true 2 (.slice none 0 0)) 43)) = W2 at *
    clear HK1 HB1
    go_wp2_with (refine wpList_load_row rfl 43 _ rfl W1.heap.size rfl 43 (refC a b s true 2 (.slice none 0 0)) (0, 0) _ HP.out Tryd.underlying43 rfl HS.out ?_)
    refine (rask_calls a b s true 2 _ _).mono ?_
    rintro e W3 ⟨rfl, hb3⟩
    have hsz3 := hb3.size
    have HP3 := Lib.hid ((hb3.block W1.heap.size (by omega)).trans HP.out)
    have HK3 := Lib.hid ((hb3.block (w.heap.size + 1) (by omega)).trans HK.out)
    have HB3 := Lib.hid (bthen' HB.out hb3)
    clear HP HK HB
    go_wp2_with fail
    refine (rcheck_calls a b s _).mono ?_
    rintro e W4 ⟨rfl, hb4⟩
    have hsz4 := hb4.size
    have HP4 := Lib.hid ((hb4.block W1.heap.size (by omega)).trans HP3.out)
    have HK4 := Lib.hid ((hb4.block (w.heap.size + 1) (by omega)).trans HK3.out)
    have HB4 := Lib.hid (bthen' HB3.out hb4)
    clear HP3 HK3 HB3 hb3 hb4
    by_cases hc : chkF a b s = 0
    · have hc' : (chkF a b s != 0) = false := by simpa using hc
      have HC := Lib.hid hc
      clear hc
      go_wp2_with (refine wpList_load_row rfl 43 _ rfl W1.heap.size rfl 43 (refC a b s true 2 (.slice none 0 0)) (0, 0) _ HP4.out Tryd.underlying43 rfl HS.out ?_)
      refine (rsay_calls a b s true 2 _).mono ?_
      rintro e W5 ⟨hb5, v5, rfl, hown5⟩
      have hsz5 := hb5.size
      have HK5 := Lib.hid ((hb5.block (w.heap.size + 1) (by omega)).trans HK4.out)
      have HB5 := Lib.hid (bthen' HB4.out hb5)
      have HO5 := Lib.hid hown5
      have hv5 : v5.ownBlock ≠ some (w.heap.size + 1) := by
        obtain ⟨g2, cap2, rfl, hg2, _⟩ := hown5.form (by omega)
        simp [Value.ownBlock]; omega
      have hone : (refC a b s true 2 v5).all (·.oneCell') = true := by
        obtain ⟨g2, cap2, rfl, hg2, _⟩ := hown5.form (by omega)
        exact refC_one ..
      have HN := Lib.hid hone
      clear hown5 HP4 HK4 HB4 hb5 hone
      go_wp2_with (refine wpList_store_blk rfl 43 _ _ rfl (w.heap.size + 1) rfl (refC a b s true 2 v5) rfl 43 (refC 0 0 0 false 0 (.slice none 0 0)) HK5.out HS.out rfl HN.out ?_)
      have hgr : W5.grownBy (W5.setRow (w.heap.size + 1) (refC a b s true 2 v5)) (some (w.heap.size + 1)) := grownBy_setRow _ _ _
      refine bodyPost_ret (results_ct rfl _ _ (w.heap.size + 1) 43 (refC a b s true 2 v5) (0, 0) _ rfl (heap_setRow_same HK5.out _) Tryd.underlying43 rfl HS.out) rfl ⟨HB5.out.grown hgr HB5.out.size (fun k hk => by simp at hk; omega), .inr ⟨HC.out, v5, rfl, (own_mono HO5.out (by omega)).kept hgr (.inr hv5)⟩⟩
    · have hc' : (chkF a b s != 0) = true := by simpa using hc
      have HB43 := Lib.hid bld43n
      go_wp2_with (first | (refine wpList_build rfl 43 _ rfl #[] (by simp) _ _ (HB43.out _) ?_) | (refine wpList_store_blk rfl 43 _ _ rfl (w.heap.size + 1) rfl (refC 0 0 0 false 0 (.slice none 0 0)) rfl 43 (refC 0 0 0 false 0 (.slice none 0 0)) HK4.out HS.out rfl (refC_one ..) ?_))
      have hgr : W4.grownBy (W4.setRow (w.heap.size + 1) (refC 0 0 0 false 0 (.slice none 0 0))) (some (w.heap.size + 1)) := grownBy_setRow _ _ _
      refine bodyPost_ret (results_ct rfl _ _ (w.heap.size + 1) 43 (refC 0 0 0 false 0 (.slice none 0 0)) (0, 0) _ rfl (heap_setRow_same HK4.out _) Tryd.underlying43 rfl HS.out) rfl ⟨HB4.out.grown hgr HB4.out.size (fun k hk => by simp at hk; omega), .inl ⟨hc, rfl⟩⟩
  · apply nd_go
    · rfl
    · rfl
    intro k hk
    go_wp2_with fail
    refine ⟨fun _ => ⟨(World.cell?_alloc_lt _ _ _ (by first | omega | (simp; done) | (simp; omega) | (dsimp only; omega))).trans hc0, (World.cell?_alloc_lt _ _ _ (by first | omega | (simp; done) | (simp; omega) | (dsimp only; omega))).trans hc1⟩, ?_⟩
    try simp only [Act.put, List.set_cons_zero, List.set_cons_succ, List.setIfInBounds_toArray]
    have hd0 : (W0.alloc (.cells (refC 0 0 0 false 0 (.slice none 0 0)) 43)).drew.cell? ⟨w.heap.size, 0, none⟩ = _ := (World.cell?_alloc_lt W0 (.cells (refC 0 0 0 false 0 (.slice none 0 0)) 43) ⟨w.heap.size, 0, none⟩ (by show w.heap.size < _; omega)).trans hc0
    have hd1 : (W0.alloc (.cells (refC 0 0 0 false 0 (.slice none 0 0)) 43)).drew.cell? ⟨w.heap.size, 1, none⟩ = _ := (World.cell?_alloc_lt W0 (.cells (refC 0 0 0 false 0 (.slice none 0 0)) 43) ⟨w.heap.size, 1, none⟩ (by show w.heap.size < _; omega)).trans hc1
    have HP0 := Lib.hid (show (W0.alloc (.cells (refC 0 0 0 false 0 (.slice none 0 0)) 43)).drew.heap[w.heap.size + 2]? = some (.cells (refC 0 0 0 false 0 (.slice none 0 0)) 43) from hs0 ▸ heap_alloc_last W0 (.cells (refC 0 0 0 false 0 (.slice none 0 0)) 43))
    have HK1 := Lib.hid (show (W0.alloc (.cells (refC 0 0 0 false 0 (.slice none 0 0)) 43)).drew.heap[w.heap.size + 1]? = _ from (heap_alloc_old W0 (.cells (refC 0 0 0 false 0 (.slice none 0 0)) 43) (by omega)).trans HK0.out)
    have HB1 := Lib.hid (show Below w.heap.size w (W0.alloc (.cells (refC 0 0 0 false 0 (.slice none 0 0)) 43)).drew from bdrew1 (ball HB0.out (.cells (refC 0 0 0 false 0 (.slice none 0 0)) 43)))
    have hsz0 : (W0.alloc (.cells (refC 0 0 0 false 0 (.slice none 0 0)) 43)).drew.heap.size = (w.heap.size + 2) + 1 := by simp [hs0]
    generalize (W0.alloc (.cells (refC 0 0 0 false 0 (.slice none 0 0)) 43)).drew = W9 at *
    clear HK0 HB0 hc0 hc1
    apply held_nd
    · rfl
    · rfl
    intro k hk
    go_wp2_with fail
    refine (rstart_calls _).mono ?_
    rintro e W1 ⟨rfl, hb1⟩
    have hs1 := hb1.size
    have he0 := ((bcell hb1).1 _ _ (by first | omega | (simp; done) | (simp; omega) | (dsimp only; omega))).trans hd0
    have he1 := ((bcell hb1).1 _ _ (by first | omega | (simp; done) | (simp; omega) | (dsimp only; omega))).trans hd1
    have HP1 := Lib.hid ((hb1.block (w.heap.size + 2) (by omega)).trans HP0.out)
    have HK2 := Lib.hid ((hb1.block _ (by omega)).trans HK1.out)
    have HB2 := Lib.hid (bthen' HB1.out hb1)
    refine hk _ _ ⟨fun _ => ⟨he0, he1⟩, ?_⟩
    clear hk k hd0 hd1 HP0 HK1 HB1 hb1
    try simp only [Act.put, List.set_cons_zero, List.set_cons_succ, List.setIfInBounds_toArray]
    apply held_det
    · rfl
    · rfl
    · intro w' _
      exact run_build_op 43 _ rfl #[(0, .int .i64 a), (1, .int .i64 b), (2, .int .i64 s), (3, .agg #[.slice none 0 0, .slice none 0 0]), (5, .agg #[.bool true, .int .i64 0, .int .i64 2])] (by simp [Act.eval]) _ (bld43 a b s w')
    try simp only [Act.put, List.set_cons_zero, List.set_cons_succ, List.setIfInBounds_toArray]
    apply held_nd
    · rfl
    · rfl
    intro k hk
    refine wp_store_blk 43 _ _ rfl (w.heap.size + 2) rfl (refC a b s true 2 (.slice none 0 0)) rfl 43 (refC 0 0 0 false 0 (.slice none 0 0)) HP1.out HS.out rfl (refC_one ..) ?_
    refine hk _ _ ⟨fun h => absurd rfl h, held_nil ?_⟩
    clear hk k he0 he1
    have hgr : W1.grownBy (W1.setRow (w.heap.size + 2) (refC a b s true 2 (.slice none 0 0))) (some (w.heap.size + 2)) := grownBy_setRow _ _ _
    have HP := Lib.hid (heap_setRow_same HP1.out (refC a b s true 2 (.slice none 0 0)))
    have HK := Lib.hid ((hgr.block (w.heap.size + 1) (by omega) (by first | omega | (simp; done) | (simp; omega) | (dsimp only; omega))).trans HK2.out)
    have HB := Lib.hid (HB2.out.grown hgr HB2.out.size (fun k hk => by simp at hk; omega))
    have hsz : (W1.setRow (w.heap.size + 2) (refC a b s true 2 (.slice none 0 0))).heap.size = W1.heap.size := size_setRow _ _ _
    clear HP1 HK2 HB2 hgr
    generalize (W1.setRow (w.heap.size + 2) (refC a b s true 2 (.slice none 0 0))) = W2 at *
    go_wp2_with (refine wpList_load_row rfl 43 _ rfl (w.heap.size + 2) rfl 43 (refC a b s true 2 (.slice none 0 0)) (0, 0) _ HP.out Tryd.underlying43 rfl HS.out ?_)
    refine (rask_calls a b s true 2 _ _).mono ?_
    rintro e W3 ⟨rfl, hb3⟩
    have hsz3 := hb3.size
    have HP3 := Lib.hid ((hb3.block (w.heap.size + 2) (by omega)).trans HP.out)
    have HK3 := Lib.hid ((hb3.block (w.heap.size + 1) (by omega)).trans HK.out)
    have HB3 := Lib.hid (bthen' HB.out hb3)
    clear HP HK HB
    go_wp2_with fail
    refine (rcheck_calls a b s _).mono ?_
    rintro e W4 ⟨rfl, hb4⟩
    have hsz4 := hb4.size
    have HP4 := Lib.hid ((hb4.block (w.heap.size + 2) (by omega)).trans HP3.out)
    have HK4 := Lib.hid ((hb4.block (w.heap.size + 1) (by omega)).trans HK3.out)
    have HB4 := Lib.hid (bthen' HB3.out hb4)
    clear HP3 HK3 HB3 hb3 hb4
    by_cases hc : chkF a b s = 0
    · have hc' : (chkF a b s != 0) = false := by simpa using hc
      have HC := Lib.hid hc
      clear hc
      go_wp2_with (refine wpList_load_row rfl 43 _ rfl (w.heap.size + 2) rfl 43 (refC a b s true 2 (.slice none 0 0)) (0, 0) _ HP4.out Tryd.underlying43 rfl HS.out ?_)
      refine (rsay_calls a b s true 2 _).mono ?_
      rintro e W5 ⟨hb5, v5, rfl, hown5⟩
      have hsz5 := hb5.size
      have HK5 := Lib.hid ((hb5.block (w.heap.size + 1) (by omega)).trans HK4.out)
      have HB5 := Lib.hid (bthen' HB4.out hb5)
      have HO5 := Lib.hid hown5
      have hv5 : v5.ownBlock ≠ some (w.heap.size + 1) := by
        obtain ⟨g2, cap2, rfl, hg2, _⟩ := hown5.form (by omega)
        simp [Value.ownBlock]; omega
      have hone : (refC a b s true 2 v5).all (·.oneCell') = true := by
        obtain ⟨g2, cap2, rfl, hg2, _⟩ := hown5.form (by omega)
        exact refC_one ..
      have HN := Lib.hid hone
      clear hown5 HP4 HK4 HB4 hb5 hone
      go_wp2_with (refine wpList_store_blk rfl 43 _ _ rfl (w.heap.size + 1) rfl (refC a b s true 2 v5) rfl 43 (refC 0 0 0 false 0 (.slice none 0 0)) HK5.out HS.out rfl HN.out ?_)
      have hgr : W5.grownBy (W5.setRow (w.heap.size + 1) (refC a b s true 2 v5)) (some (w.heap.size + 1)) := grownBy_setRow _ _ _
      refine bodyPost_ret (results_ct rfl _ _ (w.heap.size + 1) 43 (refC a b s true 2 v5) (0, 0) _ rfl (heap_setRow_same HK5.out _) Tryd.underlying43 rfl HS.out) rfl ⟨HB5.out.grown hgr HB5.out.size (fun k hk => by simp at hk; omega), .inr ⟨HC.out, v5, rfl, (own_mono HO5.out (by omega)).kept hgr (.inr hv5)⟩⟩
    · have hc' : (chkF a b s != 0) = true := by simpa using hc
      have HB43 := Lib.hid bld43n
      go_wp2_with (first | (refine wpList_build rfl 43 _ rfl #[] (by simp) _ _ (HB43.out _) ?_) | (refine wpList_store_blk rfl 43 _ _ rfl (w.heap.size + 1) rfl (refC 0 0 0 false 0 (.slice none 0 0)) rfl 43 (refC 0 0 0 false 0 (.slice none 0 0)) HK4.out HS.out rfl (refC_one ..) ?_))
      have hgr : W4.grownBy (W4.setRow (w.heap.size + 1) (refC 0 0 0 false 0 (.slice none 0 0))) (some (w.heap.size + 1)) := grownBy_setRow _ _ _
      refine bodyPost_ret (results_ct rfl _ _ (w.heap.size + 1) 43 (refC 0 0 0 false 0 (.slice none 0 0)) (0, 0) _ rfl (heap_setRow_same HK4.out _) Tryd.underlying43 rfl HS.out) rfl ⟨HB4.out.grown hgr HB4.out.size (fun k hk => by simp at hk; omega), .inl ⟨hc, rfl⟩⟩
