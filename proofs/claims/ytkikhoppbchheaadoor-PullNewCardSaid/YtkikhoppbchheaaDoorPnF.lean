/- Walks for PullNew: what a pull says. -/
import Derived.Test.YtkikhoppbchheaaDoorPnE
namespace Go.Proofs.YtkikhoppbchheaaDoor
open Go Go.RowKit
theorem bs33 (k a b s : Int) : ∀ w, (Instr.buildSlice 33 1 #[(0, .agg (askM k a b s))]).run Tryd.prog w = .ok (.slice (some ⟨w.heap.size, 0, none⟩) 1 1) (w.alloc (.cells (askM k a b s) 38)) := fun _ => by kernel_rfl
theorem info38b : (Tryd.prog.info? 38).map (fun i => (i.zero, i.size, i.bytes)) = some (some (.agg (askM 0 0 0 0)), 41, 152) := by kernel_rfl
set_option maxRecDepth 100000 in
set_option maxHeartbeats 400000 in
theorem say_calls (g base n : Nat) (a b s t0 t1 t2 : Int) (v : Value) (xs : List Value) (w : World) (h : Pull w g a b s 0 t0 t1 t2 v) (hown : w.ownsRow base 38 41 v n xs) (hbg : base ≤ g) (hn : n ≤ 100) (hne : v.ownBlock ≠ some g) :
    Calls Tryd.prog 13 #[.pointer (some ⟨g, 0, none⟩)] w fun e w' => e = .returned (.tuple #[]) ∧ ∃ v', Pull w' g a b s 0 t0 t1 t2 v' ∧ w'.ownsRow base 38 41 v' (n + 1) (xs ++ (askM 1 a b s).toList) ∧ v'.ownBlock ≠ some g ∧ Below base w w' := by
  obtain ⟨i0, hi, hz0, hz1, hz2⟩ := info_parts info38b
  have c5 := h.c5
  have hlt := h.lt
  go_enter Tryd.func13, Tryd.ntmps13
  go_wp2_with fail
  refine wp_region_seq (fun w' => w'.cell? ⟨g, 9, none⟩ = some v) [(0, true), (1, true), (2, true), (3, true), (4, true), (5, true), (6, false), (7, false), (8, false), (9, true), (10, true), (11, false)] 11 (by kernel_rfl) (by kernel_rfl) h.c9 ?_
  repeat (first
    | (apply held_det
       · rfl
       · first | rfl | (simp [Region.wanted, yielded, *]; done)
       · (intro w' hS; obtain hS9 := hS; go_simp; first | done | exact rfl)
       simp only [Act.put, List.set_cons_zero, List.set_cons_succ, List.setIfInBounds_toArray])
    | (apply held_skip
       · rfl
       · first | rfl | (simp [Region.wanted, yielded, *]; done)
       simp only [Act.put, List.set_cons_zero, List.set_cons_succ, List.setIfInBounds_toArray]))
  apply held_nd
  · rfl
  · rfl
  intro k hk
  have h1 : Pull w.drew g a b s 0 t0 t1 t2 v := h
  go_wp2_with fail
  refine (ask_calls g a b s _ h1.c0 h1.c1 h1.c2 h1.lt).mono ?_
  rintro e W1 ⟨rfl, hb1⟩
  have hB1 : Below w.heap.size w W1 := bthen' (bdrew1 (Below.refl _ _)) hb1
  have h2 : Pull W1 g a b s 0 t0 t1 t2 v := h1.below hb1
  have ho1 : W1.ownsRow base 38 41 v n xs := own_below (w := w.drew) hown hb1
  refine hk _ _ ⟨fun _ => h2.c9, ?_⟩
  clear hk k
  apply held_nd
  · rfl
  · rfl
  intro k hk
  refine wp_buildSlice 33 1 _ rfl #[(0, .agg (askM 1 a b s))] (by simp [Act.eval]) _ _ (bs33 1 a b s W1) ?_
  refine hk _ _ ⟨fun _ => (h2.below (ball (Below.refl _ _) _)).c9, ?_⟩
  clear hk k
  apply held_nd
  · rfl
  · rfl
  intro k hk
  have hW1 : w.heap.size ≤ W1.heap.size := hB1.size
  refine wp_append_own _ _ 33 rfl base 38 i0 _ 41 152 Tryd.underlying33 hi hz0 hz1 hz2 rfl (by omega) v n xs rfl (ho1.alloc _) ⟨W1.heap.size, 0, none⟩ 1 1 (askM 1 a b s).toList rfl rfl
    (World.news_of_block (cs := askM 1 a b s) (t := 38) (fr := (0, 0)) (heap_alloc_new W1 _)) (by simp [askM, Value.oneCell']) (by simp only [maxLen]; omega) (by omega) (by simp; omega) ?_
  intro v2 W2 hown2 hgr _ hat
  have h3 : Pull W2 g a b s 0 t0 t1 t2 v := (hgr.block g (by simp; omega) (fun e => hne e.symm)).trans (h2.below (ball (Below.refl _ _) _))
  have hB2 : Below base w W2 := ((hB1.mono (by omega : base ≤ w.heap.size)).alloc (by omega) _).grown hgr (by simp; omega) (fun k hk => (hown.lt k hk).1)
  have hne2 : v2.ownBlock ≠ some g := by
    rcases hat with e | e
    · rw [e]; exact hne
    · rw [e]; simp; omega
  obtain ⟨g2, cap2, rfl, _, _⟩ := hown2.form (by omega)
  refine hk _ _ ⟨fun _ => h3.c9, ?_⟩
  clear hk k
  simp only [Act.put, List.set_cons_zero, List.set_cons_succ, List.setIfInBounds_toArray]
  repeat (first
    | (apply held_det
       · rfl
       · first | rfl | (simp [Region.wanted, yielded, *]; done)
       · (intro w' hS; obtain hS9 := hS; go_simp; first | done | exact rfl)
       simp only [Act.put, List.set_cons_zero, List.set_cons_succ, List.setIfInBounds_toArray])
    | (apply held_skip
       · rfl
       · first | rfl | (simp [Region.wanted, yielded, *]; done)
       simp only [Act.put, List.set_cons_zero, List.set_cons_succ, List.setIfInBounds_toArray]))
  apply held_nd
  · rfl
  · rfl
  intro k hk
  have c9 := h3.c9
  have f9 := h3.fr 9
  go_wp2_with fail
  refine ⟨fun h => absurd rfl h, held_nil ?_⟩
  go_wp2_with fail
  refine bodyPost_end (results_none rfl _ _ _) rfl ⟨rfl, _, h3.set9 _, own_setCell hown2 hne2 _, hne2, hB2.setCell (p := ⟨g, 9, none⟩) hbg _⟩
