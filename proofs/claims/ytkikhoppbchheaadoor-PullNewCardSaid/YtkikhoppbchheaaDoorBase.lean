/- What the heap holds for lists, structs and trees: readings of Go data, and how they are kept. -/
import Derived.Below
import Derived.Deep.Draws
import Derived.Deep.AppendLies
import Derived.Maps.AppendAt
import Derived.OwnWalk
import Derived.Laws.OwnMore
import Derived.Tactics
import Derived.WalkKit
import Derived.KernelRfl
import Derived.Lib.Hide
namespace Go.Proofs.YtkikhoppbchheaaDoor
open Go Go.RowKit

/-! ### Worlds -/
theorem bcell {W w1 : World} (hb : Below W.heap.size W w1) : (∀ b o, b < W.heap.size → w1.cell? ⟨b, o, none⟩ = W.cell? ⟨b, o, none⟩) ∧ (∀ b o, b < W.heap.size → w1.frozen? ⟨b, o, none⟩ = W.frozen? ⟨b, o, none⟩) :=
  ⟨fun b o h => hb.cell (p := ⟨b, o, none⟩) h, fun b o h => hb.frozen (p := ⟨b, o, none⟩) h⟩
theorem ret_int {k : IntKind} {a b : Int} (h : a = b) : Ending.returned (.int k a) = .returned (.int k b) := by rw [h]
theorem ret_bool {a b : Bool} (h : a = b) : Ending.returned (.bool a) = .returned (.bool b) := by rw [h]
theorem own_below {w w' : World} {base : Nat} {e : TypeId} {size n : Nat} {v : Value} {xs : List Value} (h : w.ownsRow base e size v n xs) (hb : Below w.heap.size w w') : w'.ownsRow base e size v n xs :=
  h.kept (row := none) ⟨hb.os, hb.tape, hb.output, hb.size, fun k hk _ => hb.block k hk⟩ (by cases v.ownBlock <;> simp)
theorem own_setCell {w : World} {base : Nat} {e : TypeId} {size n : Nat} {v : Value} {xs : List Value} (h : w.ownsRow base e size v n xs) {p : Addr} (hne : v.ownBlock ≠ some p.block) (u : Value) : (w.setCell p u).ownsRow base e size v n xs :=
  h.kept (row := some p.block) ⟨rfl, rfl, rfl, by simp [World.setCell], fun k _ hn => Below.heap_setCell w p u k (fun e => hn (by rw [e]))⟩ (.inr hne)
theorem lt_of_blk {w : World} {b : Nat} {o : Obj} (h : w.heap[b]? = some o) : b < w.heap.size := (Array.getElem?_eq_some_iff.1 h).1

theorem bthen {B : Nat} {w W w1 : World} (h : Below B w W) (hB : B ≤ W.heap.size) (k : Below W.heap.size W w1) : Below B w w1 := h.trans (k.mono hB)
theorem bthen' {w W w1 : World} (h : Below w.heap.size w W) (k : Below W.heap.size W w1) : Below w.heap.size w w1 := h.trans (k.mono h.size)
theorem ball {w W : World} (h : Below w.heap.size w W) (o : Obj) : Below w.heap.size w (W.alloc o) := h.alloc h.size o
theorem bset {w W : World} (h : Below w.heap.size w W) {g j : Nat} (hg : w.heap.size ≤ g) (u : Value) : Below w.heap.size w (W.setCell ⟨g, j, none⟩ u) := h.setCell hg u
theorem bdrew {B : Nat} {w W : World} (n : Nat) (h : Below B w W) : Below B w (W.drewN n) := ⟨h.os, h.tape, h.output, h.size, h.block⟩
theorem bdrew1 {B : Nat} {w W : World} (h : Below B w W) : Below B w W.drew := h.drew

/-- Blocks of w that satisfy 'ok' are in w' as they were. -/
structure Kept (ok : Nat → Prop) (w w' : World) : Prop where
  size : w.heap.size ≤ w'.heap.size
  block : ∀ b, ok b → b < w.heap.size → w'.heap[b]? = w.heap[b]?
theorem Kept.refl (ok : Nat → Prop) (w : World) : Kept ok w w := ⟨Nat.le_refl _, fun _ _ _ => rfl⟩
theorem Kept.trans {ok : Nat → Prop} {a b c : World} (h : Kept ok a b) (k : Kept ok b c) : Kept ok a c :=
  ⟨Nat.le_trans h.size k.size, fun i hi hl => (k.block i hi (Nat.lt_of_lt_of_le hl h.size)).trans (h.block i hi hl)⟩
theorem Kept.of_below {ok : Nat → Prop} {w w' : World} (h : Below w.heap.size w w') : Kept ok w w' := ⟨h.size, fun b _ hl => h.block b hl⟩
theorem Kept.of_belowB {B : Nat} {ok : Nat → Prop} {w w' : World} (h : Below B w w') (hok : ∀ b, ok b → b < B) : Kept ok w w' := ⟨h.size, fun b hb _ => h.block b (hok b hb)⟩
theorem Kept.of_grown {ok : Nat → Prop} {w w' : World} {row : Option Nat} (h : w.grownBy w' row) (hok : ∀ b, ok b → b < w.heap.size → some b ≠ row) : Kept ok w w' := ⟨h.size, fun b hb hl => h.block b hl (hok b hb hl)⟩
theorem Kept.alloc {ok : Nat → Prop} (w : World) (o : Obj) : Kept ok w (w.alloc o) := ⟨by simp, fun b _ hl => Below.heap_alloc w o b hl⟩
theorem Kept.setCell {ok : Nat → Prop} (w : World) (a : Addr) (u : Value) (h : ¬ ok a.block) : Kept ok w (w.setCell a u) :=
  ⟨by simp [World.setCell], fun b hb _ => Below.heap_setCell w a u b (fun e => h (e ▸ hb))⟩
theorem Kept.drewN {ok : Nat → Prop} (w : World) (n : Nat) : Kept ok w (w.drewN n) := ⟨Nat.le_refl _, fun _ _ _ => rfl⟩
theorem Kept.weaken {ok ok' : Nat → Prop} {w w' : World} (h : Kept ok w w') (hk : ∀ b, ok' b → ok b) : Kept ok' w w' := ⟨h.size, fun b hb hl => h.block b (hk b hb) hl⟩
theorem Kept.cell {ok : Nat → Prop} {w w' : World} (h : Kept ok w w') {g o : Nat} {v : Value} (hg : ok g) (hl : g < w.heap.size) (hc : w.cell? ⟨g, o, none⟩ = some v) : w'.cell? ⟨g, o, none⟩ = some v :=
  (World.cell?_of_block (w := w) (a := ⟨g, o, none⟩) (h.block g hg hl)).trans hc

/-! ### Readings: 'T.cells ok w x cs': the cells cs are the value x, whose memory in w lies in blocks that satisfy ok -/
structure Ty (α : Type) where
  sz : Nat
  cells : (Nat → Prop) → World → α → List Value → Prop
  len : ∀ {ok w x cs}, cells ok w x cs → cs.length = sz
  one : ∀ {ok w x cs}, cells ok w x cs → ∀ u ∈ cs, u.oneCell' = true
  keep : ∀ {ok ok' w w' x cs}, cells ok w x cs → Kept ok w w' → (∀ b, ok b → b < w.heap.size → ok' b) → cells ok' w' x cs

def In (lo hi x : Int) : Prop := lo ≤ x ∧ x ≤ hi
def tI64 : Ty Int where
  sz := 1
  cells _ _ x cs := cs = [.int .i64 x] ∧ In (-9223372036854775808) 9223372036854775807 x
  len h := by rw [h.1]; rfl
  one h := by rw [h.1]; simp [Value.oneCell']
  keep h _ _ := h
def tU8 : Ty UInt8 where
  sz := 1
  cells _ _ x cs := cs = [.int .u8 x.toNat]
  len h := by rw [h]; rfl
  one h := by rw [h]; simp [Value.oneCell']
  keep h _ _ := h
def tBool : Ty Bool where
  sz := 1
  cells _ _ x cs := cs = [.bool x]
  len h := by rw [h]; rfl
  one h := by rw [h]; simp [Value.oneCell']
  keep h _ _ := h
def tStr : Ty ByteArray where
  sz := 1
  cells _ _ x cs := cs = [.string x]
  len h := by rw [h]; rfl
  one h := by rw [h]; simp [Value.oneCell']
  keep h _ _ := h

/-- The slice value '.slice A n c' reads as the list xs. -/
def Sl {α : Type} (T : Ty α) (ok : Nat → Prop) (w : World) (A : Option Addr) (n c : Nat) (xs : List α) : Prop :=
  xs.length = n ∧ n ≤ c ∧ c ≤ 9223372036854775807 ∧ (0 < n → ∃ g o, A = some ⟨g, o, none⟩ ∧ g < w.heap.size ∧ ok g ∧
    ∀ j x, xs[j]? = some x → ∃ cs, T.cells ok w x cs ∧ ∀ i u, cs[i]? = some u → w.cell? ⟨g, o + j * T.sz + i, none⟩ = some u)
/-- A value reads as the list xs. -/
def Rs {α : Type} (T : Ty α) (ok : Nat → Prop) (w : World) (v : Value) (xs : List α) : Prop := ∃ A n c, v = .slice A n c ∧ Sl T ok w A n c xs

section
variable {α : Type} {T : Ty α} {ok ok' : Nat → Prop} {w w' : World} {A : Option Addr} {n c : Nat} {xs : List α}
theorem Sl.keep (h : Sl T ok w A n c xs) (hk : Kept ok w w') (hok : ∀ b, ok b → b < w.heap.size → ok' b) : Sl T ok' w' A n c xs := by
  refine ⟨h.1, h.2.1, h.2.2.1, fun hn => ?_⟩
  obtain ⟨g, o, hA, hg, hgo, hc⟩ := h.2.2.2 hn
  refine ⟨g, o, hA, Nat.lt_of_lt_of_le hg hk.size, hok g hgo hg, fun j x hx => ?_⟩
  obtain ⟨cs, h1, h2⟩ := hc j x hx
  exact ⟨cs, T.keep h1 hk hok, fun i u hu => hk.cell hgo hg (h2 i u hu)⟩
theorem Sl.below (h : Sl T ok w A n c xs) (hb : Below w.heap.size w w') : Sl T ok w' A n c xs := h.keep (.of_below hb) fun _ h _ => h
theorem Sl.weaken (h : Sl T ok w A n c xs) (hk : ∀ b, ok b → b < w.heap.size → ok' b) : Sl T ok' w A n c xs := h.keep (.refl _ _) hk
theorem Sl.nil : Sl T ok w none 0 0 ([] : List α) := ⟨rfl, Nat.le_refl _, by omega, fun h => absurd h (by omega)⟩
theorem Sl.len (h : Sl T ok w A n c xs) : xs.length = n := h.1
/-- One element's cells. -/
theorem Sl.at_ (h : Sl T ok w A n c xs) {k : Nat} (hk : k < n) : ∃ g o x cs, A = some ⟨g, o, none⟩ ∧ g < w.heap.size ∧ ok g ∧ xs[k]? = some x ∧ xs.drop k = x :: xs.drop (k + 1) ∧ T.cells ok w x cs ∧
    ∀ i u, cs[i]? = some u → w.cell? ⟨g, o + k * T.sz + i, none⟩ = some u := by
  obtain ⟨g, o, hA, hg, hgo, hc⟩ := h.2.2.2 (by omega)
  have hl : k < xs.length := by rw [h.1]; exact hk
  obtain ⟨cs, h1, h2⟩ := hc k xs[k] (List.getElem?_eq_getElem hl)
  exact ⟨g, o, xs[k], cs, hA, hg, hgo, List.getElem?_eq_getElem hl, List.drop_eq_getElem_cons hl, h1, h2⟩
theorem Sl.take (h : Sl T ok w A n c xs) {m : Nat} (hm : m ≤ n) : Sl T ok w A m c (xs.take m) := by
  refine ⟨by rw [List.length_take, h.1]; omega, by have := h.2.1; omega, h.2.2.1, fun hn => ?_⟩
  obtain ⟨g, o, hA, hg, hgo, hc⟩ := h.2.2.2 (by omega)
  refine ⟨g, o, hA, hg, hgo, fun j x hx => hc j x ?_⟩
  rw [List.getElem?_take] at hx
  split at hx
  · exact hx
  · cases hx
end

/-- A slice as one cell. -/
def tSl {α : Type} (T : Ty α) : Ty (List α) where
  sz := 1
  cells ok w xs cs := ∃ A n c, cs = [.slice A n c] ∧ Sl T ok w A n c xs
  len h := by obtain ⟨A, n, c, rfl, _⟩ := h; rfl
  one h := by obtain ⟨A, n, c, rfl, _⟩ := h; simp [Value.oneCell']
  keep h hk hok := by
    obtain ⟨A, n, c, rfl, hs⟩ := h
    exact ⟨A, n, c, rfl, hs.keep hk hok⟩

end Go.Proofs.YtkikhoppbchheaaDoor
