/- A region that draws its order, walked once in an order of our choice: what only reads is taken first (it yields one value in every world that satisfies S), all else as the edges force it. Whole blocks. -/
import Derived.OrdersHeld
import Derived.Deep.RegionHeld3
import Derived.Laws.Rows
import Derived.Laws.Tables
import Derived.Deep.MidRow
import Derived.Deep.WholeRow
import Derived.WalkKit
import Derived.Maps.AppendAt
import Derived.Laws.CopyOwn
namespace Go.Proofs.YtkikhoppbchheaaDoor
open Go Go.RowKit
section
variable {P : Program} {ops : Array Oper} {Q : Exit → Act → World → Prop} {S : World → Prop}

/-- Does j wait for i? -/
def reachB (ops : Array Oper) : Nat → Nat → Nat → Bool
  | 0, _, _ => false
  | f + 1, j, i => match ops[j]? with
    | some o => o.after.any fun e => Region.binds .any e && (e.on == i || reachB ops f e.on i)
    | none => false
/-- May the operations come up in this order? (true: it only reads, and may be taken first; false: it is the only one that may come up.) C: what is asked of what stands behind. -/
def heldK (ops : Array Oper) (L : Nat) (C : Array Bool → Bool) : List (Nat × Bool) → Array Bool → Bool
  | [], listed => C listed
  | (i, true) :: r, listed => (Region.ready .any ops listed).contains i && Region.free .any ops listed i && (decide (ops.size ≤ L) || reachB ops ops.size L i) && heldK ops L C r (listed.setIfInBounds i true)
  | (i, false) :: r, listed => decide (Region.ready .any ops listed = [i]) && (i != L || (r.isEmpty && (Region.ready .any ops (listed.setIfInBounds i true)).isEmpty)) && heldK ops L C r (listed.setIfInBounds i true)
def heldE (ops : Array Oper) (listed : Array Bool) : Bool := (Region.ready .any ops listed).isEmpty
/-- Two may come up here. -/
def heldTwo (ops : Array Oper) (L i j : Nat) (C D : Array Bool → Bool) (listed : Array Bool) : Bool :=
  decide (Region.ready .any ops listed = [i, j]) && i != L && j != L && C (listed.setIfInBounds i true) && D (listed.setIfInBounds j true)
def NoQ : Exit → Act → World → Prop := fun _ _ _ => False
/-- L: an operation that waits for all that only read: behind it S need not hold. -/
def heldSeq (P : Program) (ops : Array Oper) (S : World → Prop) (L : Nat) (K : Act → World → Prop) : List (Nat × Bool) → Act → World → Prop
  | [], a, w => K a w
  | (i, true) :: r, a, w => ∃ o v, ops[i]? = some o ∧ YieldsIf P ops S o v a ∧ heldSeq P ops S L K r (a.put o.dst v) w
  | (i, false) :: r, a, w => ∃ o, ops[i]? = some o ∧ if Region.wanted o (yielded ops a.tmps) then o.wp P a w (fun a' w' => (i ≠ L → S w') ∧ heldSeq P ops S L K r a' w') NoQ else (i ≠ L → S w) ∧ heldSeq P ops S L K r (a.put o.dst undef) w

structure ClosedL (ops : Array Oper) (listed : Array Bool) : Prop where
  deps : ∀ j oj, ops[j]? = some oj → listed.getD j false = true → ∀ e ∈ oj.after, Region.binds .any e = true → listed.getD e.on false = true
theorem ClosedL.set {listed : Array Bool} (h : ClosedL ops listed) {i : Nat} (hi : i ∈ Region.ready .any ops listed) : ClosedL ops (listed.setIfInBounds i true) := by
  obtain ⟨_, oi, hoi, hall⟩ := mem_ready.1 hi
  refine ⟨fun j oj hj hl e he hb => ?_⟩
  by_cases hij : i = j
  · subst hij
    have : oj = oi := Option.some.inj (hj.symm.trans hoi)
    subst this
    exact getD_set_true (hall e he hb)
  · rw [getD_set_ne false hij] at hl
    exact getD_set_true (h.deps j oj hj hl e he hb)
theorem ClosedL.reach {listed : Array Bool} (h : ClosedL ops listed) : ∀ (f j i : Nat), (∀ oj, ops[j]? = some oj → ∀ e ∈ oj.after, Region.binds .any e = true → listed.getD e.on false = true) → reachB ops f j i = true → listed.getD i false = true
  | 0, _, _, _, hr => by cases hr
  | f + 1, j, i, hd, hr => by
    unfold reachB at hr
    split at hr
    · rename_i o ho
      obtain ⟨e, he, hb⟩ := Array.any_eq_true'.1 hr
      simp only [Bool.and_eq_true, Bool.or_eq_true, beq_iff_eq] at hb
      have hl := hd o ho e he hb.1
      rcases hb.2 with rfl | h2
      · exact hl
      · exact h.reach f e.on i (fun oj hj e' he' hb' => h.deps e.on oj hj hl e' he' hb') h2
    · cases hr

def wpAnyF (P : Program) (ops : Array Oper) (Q : Exit → Act → World → Prop) (S : World → Prop) (L : Nat) : Nat → Array Bool → Act → World → Prop
  | 0, listed, a, w => Region.ready .any ops listed = [] ∧ Q .normal a w
  | fuel + 1, listed, a, w =>
    (Region.ready .any ops listed = [] → Q .normal a w) ∧
    ∀ i ∈ Region.ready .any ops listed, wpOp P ops Q i (fun a' w' => (i ≠ L → S w') ∧ wpAnyF P ops Q S L fuel (listed.setIfInBounds i true) a' w') a w
theorem wpAny_of_F {L : Nat} : ∀ (fuel : Nat) (listed : Array Bool) (a : Act) (w : World), wpAnyF P ops Q S L fuel listed a w → wpAny P .any ops Q fuel listed a w
  | 0, _, _, _, h => h
  | fuel + 1, _, _, _, h => ⟨h.1, fun i hi => wpOp_mono (fun a' w' h' => wpAny_of_F fuel _ a' w' h'.2) (h.2 i hi)⟩

theorem wpAnyF_first {L i : Nat} {oi : Oper} {v : Value} (hi : ops[i]? = some oi) (hsel : ∀ (j : Nat) (o : Oper) cs b, ops[j]? = some o → o.op ≠ .select cs b)
    (hQ : ∀ c a w, Q (.panic c) (a.put oi.dst v) w → Q (.panic c) a w) (hL : L < ops.size → ∃ f, reachB ops f L i = true) :
    ∀ (fuel : Nat) (listed : Array Bool) (a : Act) (w : World), ClosedL ops listed →
      (∀ j oj, ops[j]? = some oj → j ≠ i → listed.getD j true = false → (∀ e ∈ oj.after, Region.binds .any e = true → e.on ≠ i) → oi.apart ops oj = true) →
      i ∈ Region.ready .any ops listed → YieldsIf P ops S oi v a → S w →
      wpAnyF P ops Q S L fuel (listed.setIfInBounds i true) (a.put oi.dst v) w → wpAnyF P ops Q S L (fuel + 1) listed a w := by
  intro fuel
  induction fuel with
  | zero =>
    intro listed a w _ _ hr hy hS H
    refine ⟨fun h => (by rw [h] at hr; cases hr), fun j hj => ?_⟩
    by_cases hji : j = i
    · subst hji; exact hy.wpOp hi hS ⟨fun _ => hS, H⟩
    · have := ready_mono hj hji
      rw [H.1] at this
      cases this
  | succ fuel ih =>
    intro listed a w hcl hfree hr hy hS H
    refine ⟨fun h => (by rw [h] at hr; cases hr), fun j hj => ?_⟩
    by_cases hji : j = i
    · subst hji; exact hy.wpOp hi hS ⟨fun _ => hS, H⟩
    · have h1 := H.2 j (ready_mono hj hji)
      obtain ⟨hjun, oj, hoj, hall⟩ := mem_ready.1 hj
      have hun := (mem_ready.1 hr).1
      have hunf : listed.getD i false ≠ true := fun h1 => by
        rcases Nat.lt_or_ge i listed.size with h' | h'
        · simp [h'] at hun h1; rw [hun] at h1; cases h1
        · simp [Array.getElem?_eq_none h'] at h1
      have hjL : j ≠ L := fun e => by
        subst e
        obtain ⟨f, hf⟩ := hL (Array.getElem?_eq_some_iff.1 hoj).1
        exact hunf (hcl.reach f j i (fun o' ho' => by rw [hoj] at ho'; cases ho'; exact hall) hf)
      have hnot : ∀ e ∈ oj.after, Region.binds .any e = true → e.on ≠ i := fun e he hb heq => hunf (heq ▸ hall e he hb)
      have h2 := wpOp_putIf hoj (hfree j oj hoj hji hjun hnot) (fun cs b => hsel i oi cs b hi) (fun cs b => hsel j oj cs b hoj) hQ hy h1
      have hfree' : ∀ k ok, ops[k]? = some ok → k ≠ i → (listed.setIfInBounds j true).getD k true = false →
          (∀ e ∈ ok.after, Region.binds .any e = true → e.on ≠ i) → oi.apart ops ok = true := fun k ok hk hki hun hno => by
        refine hfree k ok hk hki ?_ hno
        by_cases hjk : j = k
        · subst hjk; exact hjun
        · rw [getD_set_ne true hjk] at hun; exact hun
      refine wpOp_mono (fun a' w' h3 => ⟨h3.2.1, ih (listed.setIfInBounds j true) a' w' (hcl.set hj) hfree' (ready_mono hr (Ne.symm hji)) h3.1 (h3.2.1 hjL) ?_⟩) h2
      rw [Array.setIfInBounds_comm _ _ hji]
      exact h3.2.2

theorem Oper.wp_noQ {o : Oper} {a : Act} {w : World} {K : Act → World → Prop} {Q : Exit → Act → World → Prop} (h : o.wp P a w K NoQ) : o.wp P a w K Q := by
  unfold Oper.wp at *
  generalize (execOp a.eval o).run P w = r at *
  cases r with
  | halt x w' => cases x <;> simp only [Oper.upon, NoQ] at h ⊢
  | ok n w' =>
    cases n <;> simp only [Oper.upon] at h ⊢ <;> try exact h
    case enter f args =>
      refine h.mono ?_
      intro e w'' he
      cases e
      · exact he
      · exact he.elim
      · obtain ⟨_, _, h⟩ := he
        exact h.elim

/-- One operation that does more, as heldSeq has it. -/
def heldNd (P : Program) (ops : Array Oper) (S : World → Prop) (L : Nat) (K : Act → World → Prop) (i : Nat) (a : Act) (w : World) : Prop :=
  ∃ o, ops[i]? = some o ∧ if Region.wanted o (yielded ops a.tmps) then o.wp P a w (fun a' w' => (i ≠ L → S w') ∧ K a' w') NoQ else (i ≠ L → S w) ∧ K (a.put o.dst undef) w
theorem wpOp_of_nd {L i : Nat} {K : Act → World → Prop} {a : Act} {w : World} (h : heldNd P ops S L K i a w) : wpOp P ops (NoPanic Q) i (fun a' w' => (i ≠ L → S w') ∧ K a' w') a w := by
  obtain ⟨o, ho, h2⟩ := h
  unfold wpOp
  simp only [ho]
  split
  · rename_i hw
    rw [if_pos hw] at h2
    exact .inl (Oper.wp_noQ h2)
  · rename_i hw
    rw [if_neg hw] at h2
    exact h2
/-- What stands behind is walked whole by K, where C holds of what has come up. -/
def Good (P : Program) (ops : Array Oper) (Q : Exit → Act → World → Prop) (S : World → Prop) (L n : Nat) (C : Array Bool → Bool) (K : Act → World → Prop) : Prop :=
  ∀ listed a w, C listed = true → ClosedL ops listed → (Region.ready .any ops listed ≠ [] → S w) → K a w → wpAnyF P ops (NoPanic Q) S L n listed a w
theorem good_end {L : Nat} : Good P ops Q S L 0 (heldE ops) (fun a w => Q .normal a w) := fun listed a w hc _ _ h => ⟨by simpa [heldE] using hc, h⟩
theorem good_seq {L n : Nat} (hs : Region.noSelect ops = true) {K : Act → World → Prop} {C : Array Bool → Bool} (hK : Good P ops Q S L n C K) :
    ∀ ord : List (Nat × Bool), Good P ops Q S L (ord.length + n) (heldK ops L C ord) (heldSeq P ops S L K ord)
  | [] => fun listed a w hb hcl hS h => by
    rw [List.length_nil, Nat.zero_add]
    exact hK _ _ _ hb hcl hS h
  | (i, true) :: r => fun listed a w hb hcl hS h => by
    simp only [heldK, Bool.and_eq_true, Bool.or_eq_true, decide_eq_true_eq] at hb
    obtain ⟨o, v, ho, hy, h2⟩ := h
    have hr : i ∈ Region.ready .any ops listed := by simpa using hb.1.1.1
    have hSw := hS (fun e => by rw [e] at hr; cases hr)
    rw [List.length_cons, show r.length + 1 + n = (r.length + n) + 1 by omega]
    refine wpAnyF_first ho (Region.noSelect_spec hs) (fun _ _ _ h => h) (fun h => ?_) (r.length + n) listed a w hcl (Region.free_spec ho hb.1.1.2) hr hy hSw
      (good_seq hs hK r _ _ _ hb.2 (hcl.set hr) (fun _ => hSw) h2)
    rcases hb.1.2 with h' | h'
    · omega
    · exact ⟨_, h'⟩
  | (i, false) :: r => fun listed a w hb hcl hS h => by
    simp only [heldK, Bool.and_eq_true, Bool.or_eq_true, decide_eq_true_eq] at hb
    have hr : i ∈ Region.ready .any ops listed := by rw [hb.1.1]; simp
    rw [List.length_cons, show r.length + 1 + n = (r.length + n) + 1 by omega]
    refine ⟨fun h0 => (by rw [hb.1.1] at h0; cases h0), fun j hj => ?_⟩
    rw [hb.1.1] at hj
    obtain rfl : j = i := by simpa using hj
    refine wpOp_mono (fun a' w' h3 => ⟨h3.1, ?_⟩) (wpOp_of_nd (Q := Q) (K := heldSeq P ops S L K r) h)
    refine good_seq hs hK r _ _ _ hb.2 (hcl.set hr) (fun hne => ?_) h3.2
    by_cases hjL : j = L
    · rcases hb.1.2 with h' | h'
      · simp [hjL] at h'
      · exact absurd (by simpa using h'.2) hne
    · exact h3.1 hjL
theorem good_two {L n i j : Nat} {C D : Array Bool → Bool} {K K' : Act → World → Prop} (h1 : Good P ops Q S L n C K) (h2 : Good P ops Q S L n D K') :
    Good P ops Q S L (n + 1) (heldTwo ops L i j C D) (fun a w => heldNd P ops S L K i a w ∧ heldNd P ops S L K' j a w) := fun listed a w hc hcl _ h => by
  simp only [heldTwo, Bool.and_eq_true, decide_eq_true_eq, bne_iff_ne] at hc
  obtain ⟨⟨⟨⟨hr, hi⟩, hj⟩, c1⟩, c2⟩ := hc
  refine ⟨fun h0 => (by rw [hr] at h0; cases h0), fun k hk => ?_⟩
  have hk' := hk
  rw [hr] at hk'
  rcases List.mem_cons.1 hk' with rfl | hk'
  · exact wpOp_mono (fun a' w' h3 => ⟨h3.1, h1 _ _ _ c1 (hcl.set hk) (fun _ => h3.1 hi) h3.2⟩) (wpOp_of_nd (Q := Q) h.1)
  · obtain rfl : k = j := by simpa using hk'
    exact wpOp_mono (fun a' w' h3 => ⟨h3.1, h2 _ _ _ c2 (hcl.set hk) (fun _ => h3.1 hj) h3.2⟩) (wpOp_of_nd (Q := Q) h.2)
theorem closed_none : ClosedL ops (Array.replicate ops.size false) := ⟨fun j oj hj hl => by
    rcases Nat.lt_or_ge j ops.size with h | h
    · simp [h] at hl
    · simp [Array.getElem?_eq_none h] at hj⟩
theorem wp_region_good {id n L : Nat} {a : Act} {w : World} (S : World → Prop) {C : Array Bool → Bool} {K : Act → World → Prop} (hm : P.follows .mixedOrders = true) (hG : Good P ops Q S L n C K)
    (hB : (decide (n = ops.size) && C (Array.replicate ops.size false)) = true) (hS : S w.drew) (h : K a w.drew) : (Code.region id ops true).wp P Q a w := by
  simp only [Bool.and_eq_true, decide_eq_true_eq] at hB
  obtain ⟨rfl, hB⟩ := hB
  exact wp_region_noPanic (wp_region_any hm (wpAny_of_F (S := S) (L := L) _ _ _ _ (hG _ _ _ hB closed_none (fun _ => hS) h)))
/-- **A region that draws**, in an order of our choice. -/
theorem wp_region_seq {id : Nat} {a : Act} {w : World} (S : World → Prop) (ord : List (Nat × Bool)) (L : Nat) (hm : P.follows .mixedOrders = true)
    (hB : (Region.noSelect ops && (decide (ord.length + 0 = ops.size) && heldK ops L (heldE ops) ord (Array.replicate ops.size false))) = true)
    (hS : S w.drew) (h : heldSeq P ops S L (fun a w => Q .normal a w) ord a w.drew) : (Code.region id ops true).wp P Q a w := by
  rw [Bool.and_eq_true] at hB
  exact wp_region_good S hm (good_seq hB.1 good_end ord) hB.2 hS h

def nth : List Oper → Nat → Option Oper
  | [], _ => none
  | o :: _, 0 => some o
  | _ :: l, n + 1 => nth l n
theorem nth_list : ∀ (l : List Oper) (n : Nat), nth l n = l[n]?
  | [], _ => by simp [nth]
  | _ :: _, 0 => rfl
  | _ :: l, n + 1 => by simp [nth, nth_list l n]
theorem nth_get {ops : Array Oper} {i : Nat} {o : Oper} (h : nth ops.toList i = some o) : ops[i]? = some o := by rw [nth_list] at h; simpa using h
theorem held_nil {L : Nat} {K : Act → World → Prop} {a : Act} {w : World} (h : K a w) : heldSeq P ops S L K [] a w := h
theorem held_det {K : Act → World → Prop} {a : Act} {w : World} {L i : Nat} {r : List (Nat × Bool)} {o : Oper} {v : Value} (ho : nth ops.toList i = some o) (hw : Region.wanted o (yielded ops a.tmps) = true)
    (h : ∀ w, S w → (execOp a.eval o).run P w = .ok (.value v) w) (h2 : heldSeq P ops S L K r (a.put o.dst v) w) : heldSeq P ops S L K ((i, true) :: r) a w := ⟨o, v, nth_get ho, .inl ⟨hw, h⟩, h2⟩
theorem held_skip {K : Act → World → Prop} {a : Act} {w : World} {L i : Nat} {r : List (Nat × Bool)} {o : Oper} (ho : nth ops.toList i = some o) (hw : Region.wanted o (yielded ops a.tmps) = false)
    (h2 : heldSeq P ops S L K r (a.put o.dst undef) w) : heldSeq P ops S L K ((i, true) :: r) a w := ⟨o, undef, nth_get ho, .inr ⟨hw, rfl⟩, h2⟩
theorem nd_go {K : Act → World → Prop} {a : Act} {w : World} {L i : Nat} {o : Oper} (ho : nth ops.toList i = some o) (hw : Region.wanted o (yielded ops a.tmps) = true)
    (h : ∀ k : Act → World → Prop, (∀ a' w', ((i ≠ L → S w') ∧ K a' w') → k a' w') → o.wp P a w k NoQ) : heldNd P ops S L K i a w := ⟨o, nth_get ho, by rw [if_pos hw]; exact h _ (fun _ _ h => h)⟩
theorem held_nd {K : Act → World → Prop} {a : Act} {w : World} {L i : Nat} {r : List (Nat × Bool)} {o : Oper} (ho : nth ops.toList i = some o) (hw : Region.wanted o (yielded ops a.tmps) = true)
    (h : ∀ k : Act → World → Prop, (∀ a' w', ((i ≠ L → S w') ∧ heldSeq P ops S L K r a' w') → k a' w') → o.wp P a w k NoQ) : heldSeq P ops S L K ((i, false) :: r) a w := ⟨o, nth_get ho, by rw [if_pos hw]; exact h _ (fun _ _ h => h)⟩
theorem held_no {K : Act → World → Prop} {a : Act} {w : World} {L i : Nat} {r : List (Nat × Bool)} {o : Oper} (ho : nth ops.toList i = some o) (hw : Region.wanted o (yielded ops a.tmps) = false)
    (hS : i ≠ L → S w) (h2 : heldSeq P ops S L K r (a.put o.dst undef) w) : heldSeq P ops S L K ((i, false) :: r) a w := ⟨o, nth_get ho, by rw [if_neg (by simp [hw])]; exact ⟨hS, h2⟩⟩
end
/-! ### Whole blocks -/
section
variable {P : Program} {ops : Array Oper} {rest : List Oper} {o : Oper} {a : Act} {w : World} {Q : Exit → Act → World → Prop}
/-- A whole struct or array stored into a block that it fills. -/
theorem wp_store_blk {K : Act → World → Prop} (ty : TypeId) (x y : Operand) (ho : o.op = .store ty x y) (g : Nat) (hx : a.eval x = .pointer (some ⟨g, 0, none⟩)) (c' : Array Value) (hy : a.eval y = .agg c')
    (t : TypeId) (c : Array Value) (hb : w.heap[g]? = some (.cells c t (0, 0))) (hi : (P.info? ty).map (·.size) = some c'.size) (hs : c.size = c'.size) (h1 : c'.all (·.oneCell') = true)
    (h : K (a.put o.dst undef) (w.setRow g c')) : o.wp P a w K Q := by
  unfold Oper.wp execOp
  have hr := run_storeVar_row (P := P) w g t ty c c' hb hi hs h1
  simp only [ho, hx, hy, Instr.storeAt, Instr.sureAddr, Sem.run_bind, Sem.run_pure, Result.andThen_ok, hr]
  exact h
theorem wpList_store_blk (hgd : o.guard = none) (ty : TypeId) (x y : Operand) (ho : o.op = .store ty x y) (g : Nat) (hx : a.eval x = .pointer (some ⟨g, 0, none⟩)) (c' : Array Value) (hy : a.eval y = .agg c')
    (t : TypeId) (c : Array Value) (hb : w.heap[g]? = some (.cells c t (0, 0))) (hi : (P.info? ty).map (·.size) = some c'.size) (hs : c.size = c'.size) (h1 : c'.all (·.oneCell') = true)
    (h : wpList P ops Q rest (a.put o.dst undef) (w.setRow g c')) : wpList P ops Q (o :: rest) a w :=
  wpList_plain hgd fun _ hK => wp_store_blk ty x y ho g hx c' hy t c hb hi hs h1 (hK _ _ h)
theorem wp_buildSlice {K : Act → World → Prop} (t : TypeId) (n : Nat) (parts : Array (Nat × Operand)) (ho : o.op = .buildSlice t n parts) (ps : Array (Nat × Value)) (hps : (parts.map fun (i, x) => (i, a.eval x)) = ps)
    (v : Value) (w' : World) (hr : (Instr.buildSlice t n ps).run P w = .ok v w') (h : K (a.put o.dst v) w') : o.wp P a w K Q := by
  unfold Oper.wp execOp
  simp only [ho, hps, Sem.run_bind, hr, Result.andThen_ok, Sem.run_pure]
  exact h
theorem wp_build {K : Act → World → Prop} (t : TypeId) (parts : Array (Nat × Operand)) (ho : o.op = .build t parts) (ps : Array (Nat × Value)) (hps : (parts.map fun (i, x) => (i, a.eval x)) = ps)
    (v : Value) (w' : World) (hr : (Instr.build t ps).run P w = .ok v w') (h : K (a.put o.dst v) w') : o.wp P a w K Q := by
  unfold Oper.wp execOp
  simp only [ho, hps, Sem.run_bind, hr, Result.andThen_ok, Sem.run_pure]
  exact h
theorem wpList_build (hgd : o.guard = none) (t : TypeId) (parts : Array (Nat × Operand)) (ho : o.op = .build t parts) (ps : Array (Nat × Value)) (hps : (parts.map fun (i, x) => (i, a.eval x)) = ps)
    (v : Value) (w' : World) (hr : (Instr.build t ps).run P w = .ok v w') (h : wpList P ops Q rest (a.put o.dst v) w') : wpList P ops Q (o :: rest) a w :=
  wpList_plain hgd fun _ hK => wp_build t parts ho ps hps v w' hr (hK _ _ h)
theorem wpList_buildSlice (hgd : o.guard = none) (t : TypeId) (n : Nat) (parts : Array (Nat × Operand)) (ho : o.op = .buildSlice t n parts) (ps : Array (Nat × Value)) (hps : (parts.map fun (i, x) => (i, a.eval x)) = ps)
    (v : Value) (w' : World) (hr : (Instr.buildSlice t n ps).run P w = .ok v w') (h : wpList P ops Q rest (a.put o.dst v) w') : wpList P ops Q (o :: rest) a w :=
  wpList_plain hgd fun _ hK => wp_buildSlice t n parts ho ps hps v w' hr (hK _ _ h)
/-- 'append' onto a row of the call's own, as one operation. -/
theorem wp_append_own {K : Act → World → Prop} (s x : Operand) (t : TypeId) (ho : o.op = .call { callee := .builtin .append, args := #[s, x], argTypes := #[t, t] })
    (base : Nat) (e : TypeId) (i : TypeInfo) (z : Value) (size bytes : Nat) (ht : P.underlying t = some (.slice e)) (hi : P.info? e = some i) (hz : i.zero = some z)
    (hsize : i.size = size) (hby : i.bytes = bytes) (hzs : z.cells.size = size) (hsz : 0 < size)
    (v : Value) (n : Nat) (xs : List Value) (hs : a.eval s = v) (hown : w.ownsRow base e size v n xs)
    (ad : Addr) (m c : Nat) (news : List Value) (hx : a.eval x = .slice (some ad) m c) (hl : news.length = m * size) (hnews : ∀ j u, news[j]? = some u → w.cell? (ad.add j) = some u) (h1 : ∀ u ∈ news, u.oneCell' = true)
    (h63 : n + m ≤ maxLen) (hbytes : (n + m) * bytes ≤ 140737488355328) (hbase : base ≤ w.heap.size)
    (h : ∀ v' w', w'.ownsRow base e size v' (n + m) (xs ++ news) → w.grownBy w' v.ownBlock → (v' = .slice none 0 0 ↔ v = .slice none 0 0 ∧ m = 0) → (v'.ownBlock = v.ownBlock ∨ v'.ownBlock = some w.heap.size) → K (a.put o.dst v') w') :
    o.wp P a w K Q := by
  obtain ⟨v', w', hr, h2, h3, h4, h5⟩ := run_append_own_at (P := P) w base t o.type e i z size bytes ht hi hz hsize hby hzs hsz v n xs hown ad m c news hl hnews h1 h63 hbytes hbase
  unfold Oper.wp execOp
  simp only [ho, resolve, invoke, builtin, Sem.run_bind, Sem.run_pure, Result.andThen_ok, List.map_toArray, List.map_cons, List.map_nil, hs, hx, hr]
  exact h v' w' h2 h3 h4 h5
end
theorem results_ct {P : Program} {fn : Func} {p u : Tmp} {ty : TypeId} (h : fn.results = #[.cell p ty, .tmp u]) (tmps : Array Value) (w : World) (g : Nat) (t : TypeId) (cs : Array Value) (fr : Nat × Nat) (d : TypeDesc)
    (hp : tmps.getD p undef = .pointer (some ⟨g, 0, none⟩)) (hg : w.heap[g]? = some (.cells cs t fr))
    (hu : P.underlying ty = some d) (hd : (match d with | .struct _ | .array _ _ => true | _ => false) = true) (hi : (P.info? ty).map (·.size) = some cs.size) :
    (results fn tmps).run P w = .ok (.tuple #[.agg cs, tmps.getD u undef]) w := by
  have hp' : tmps[p]?.getD undef = .pointer (some ⟨g, 0, none⟩) := by simpa using hp
  simp [results, h, hp', asAddr, run_loadVar_row (P := P) w g t ty cs fr d hg hu hd hi]
theorem setRow_drew (w : World) (g : Nat) (c : Array Value) : w.drew.setRow g c = (w.setRow g c).drew := rfl
theorem heap_setRow_same {w : World} {g : Nat} {c : Array Value} {t : TypeId} {fr : Nat × Nat} (h : w.heap[g]? = some (.cells c t fr)) (c' : Array Value) : (w.setRow g c').heap[g]? = some (.cells c' t fr) := by
  simp [World.setRow, Array.getElem?_modify, h]
theorem heap_setRow_other (w : World) (g b : Nat) (c' : Array Value) (h : b ≠ g) : (w.setRow g c').heap[b]? = w.heap[b]? := by
  simp only [World.setRow, Array.getElem?_modify]
  rw [if_neg (Ne.symm h)]
theorem size_setRow (w : World) (g : Nat) (c' : Array Value) : (w.setRow g c').heap.size = w.heap.size := by simp [World.setRow]
theorem setRow_alloc2 (w : World) (A : Obj) (c c' : Array Value) (t : TypeId) : ((w.alloc A).alloc (.cells c t)).setRow (w.heap.size + 1) c' = (w.alloc A).alloc (.cells c' t) := by
  have := World.setRow_alloc_new (w.alloc A) c c' t
  rwa [World.size_alloc] at this
#print axioms wp_region_seq
end Go.Proofs.YtkikhoppbchheaaDoor
