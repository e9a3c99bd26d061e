import Derived.Test.YteciijnpfapmhaaQB01
import Derived.Maps.AppendAt
namespace Go.Proofs.Yteciijnpfapmhaa
set_option linter.unusedSimpArgs false
set_option linter.unusedVariables false
open Go.RowKit

/-- A slice that reads as a list, element by element: 'cf' gives an element's cells, 'sz' of them. -/
def Rds {α : Type} (cf : α → List Value) (sz : Nat) (w : World) (A : Option Addr) (xs : List α) : Prop :=
 ∀ i x, xs[i]? = some x → ∃ b off, A = some ⟨b, off, none⟩ ∧ b < w.heap.size ∧ ∀ j v, (cf x)[j]? = some v → w.cell? ⟨b, off + i * sz + j, none⟩ = some v
/-- Block g is a row of the call's own, of 'cap' elements, whose first ones are xs. -/
def OwnS {α : Type} (cf : α → List Value) (sz : Nat) (T : TypeId) (w : World) (g cap : Nat) (xs : List α) : Prop :=
 ∃ cur : Array Value, w.heap[g]? = some (.cells cur T (0, 0)) ∧ cur.size = cap * sz ∧ xs.length ≤ cap ∧ cap ≤ maxLen ∧ ∀ i x, xs[i]? = some x → ∀ j v, (cf x)[j]? = some v → cur[i * sz + j]? = some v
/-- A slice of the call's own: nil and empty, or at the head of a row of its own from block B on. -/
def FreshA {α : Type} (cf : α → List Value) (sz : Nat) (T : TypeId) (B : Nat) (w : World) (A : Option Addr) (cap : Nat) (xs : List α) : Prop :=
 (A = none ∧ xs = [] ∧ cap = 0) ∨ ∃ g, A = some ⟨g, 0, none⟩ ∧ B ≤ g ∧ OwnS cf sz T w g cap xs
def Lo (B : Nat) (A : Option Addr) : Prop := ∀ a, A = some a → B ≤ a.block
def Hi (n : Nat) (A : Option Addr) : Prop := ∀ a, A = some a → a.block < n
def blkO (A : Option Addr) : Option Nat := A.map (·.block)

section
variable {α : Type} {cf : α → List Value} {sz : Nat} {T : TypeId} {w w' : World} {A : Option Addr} {xs : List α} {g cap B : Nat}

theorem Rds.below (h : Rds cf sz w A xs) (hb : Below w.heap.size w w') : Rds cf sz w' A xs := by
 intro i x hx
 obtain ⟨b, off, hA, hlt, hc⟩ := h i x hx
 exact ⟨b, off, hA, Nat.lt_of_lt_of_le hlt hb.size, fun j v hv => (hb.cell (p := ⟨b, off + i * sz + j, none⟩) hlt).trans (hc j v hv)⟩
theorem Rds.nil : Rds cf sz w A [] := by
 intro i x hx
 simp at hx
theorem Rds.grown {row : Option Nat} (h : Rds cf sz w A xs) (hg : w.grownBy w' row) (hne : ∀ a, A = some a → some a.block ≠ row) : Rds cf sz w' A xs := by
 intro i x hx
 obtain ⟨b, off, hA, hlt, hc⟩ := h i x hx
 exact ⟨b, off, hA, Nat.lt_of_lt_of_le hlt hg.size, fun j v hv => (World.cell?_of_block (a := ⟨b, off + i * sz + j, none⟩) (hg.block b hlt (hne _ hA))).trans (hc j v hv)⟩
theorem OwnS.lt (h : OwnS cf sz T w g cap xs) : g < w.heap.size := by
 obtain ⟨cur, h1, _⟩ := h
 rcases Nat.lt_or_ge g w.heap.size with hl | hl
 ·exact hl
 ·rw [Array.getElem?_eq_none hl] at h1; cases h1
theorem OwnS.rds (h : OwnS cf sz T w g cap xs) : Rds cf sz w (some ⟨g, 0, none⟩) xs := by
 intro i x hx
 have hlt := h.lt
 obtain ⟨cur, h1, h2, h3, h4, h5⟩ := h
 refine ⟨g, 0, rfl, hlt, fun j v hv => ?_⟩
 have := h5 i x hx j v hv
 simp [World.cell?, h1, this]
theorem OwnS.block (h : OwnS cf sz T w g cap xs) (hb : w'.heap[g]? = w.heap[g]?) : OwnS cf sz T w' g cap xs := by
 obtain ⟨cur, h1, h2⟩ := h
 exact ⟨cur, hb.trans h1, h2⟩
theorem OwnS.below (h : OwnS cf sz T w g cap xs) (hb : Below w.heap.size w w') : OwnS cf sz T w' g cap xs := h.block (hb.block g h.lt)
theorem OwnS.grown {row : Option Nat} (h : OwnS cf sz T w g cap xs) (hg : w.grownBy w' row) (hne : some g ≠ row) : OwnS cf sz T w' g cap xs := h.block (hg.block g h.lt hne)
theorem OwnS.cell (h : OwnS cf sz T w g cap xs) (j : Nat) (hj : j < cap * sz) : ∃ v, w.cell? ⟨g, j, none⟩ = some v := by
 obtain ⟨cur, h1, h2, _⟩ := h
 exact ⟨cur[j]'(by omega), by simp [World.cell?, h1, h2, hj]⟩
theorem OwnS.frozen (h : OwnS cf sz T w g cap xs) (j : Nat) : w.frozen? ⟨g, j, none⟩ = false := by
 obtain ⟨cur, h1, _⟩ := h
 simp [World.frozen?, h1]
theorem OwnS.empty (h : OwnS cf sz T w g cap xs) : OwnS cf sz T w g cap ([] : List α) := by
 obtain ⟨cur, h1, h2, h3, h4, h5⟩ := h
 exact ⟨cur, h1, h2, Nat.zero_le _, h4, fun i x hx => by simp at hx⟩
theorem FreshA.rds (h : FreshA cf sz T B w A cap xs) : Rds cf sz w A xs := by
 rcases h with ⟨rfl, rfl, rfl⟩ | ⟨g, rfl, _, h⟩
 ·exact Rds.nil
 ·exact h.rds
theorem FreshA.lo (h : FreshA cf sz T B w A cap xs) : Lo B A := by
 rcases h with ⟨rfl, _, _⟩ | ⟨g, rfl, hB, _⟩
 ·intro a ha; cases ha
 ·intro a ha; cases ha; exact hB
theorem FreshA.hi (h : FreshA cf sz T B w A cap xs) : Hi w.heap.size A := by
 rcases h with ⟨rfl, _, _⟩ | ⟨g, rfl, _, h⟩
 ·intro a ha; cases ha
 ·intro a ha; cases ha; exact h.lt
theorem FreshA.below (h : FreshA cf sz T B w A cap xs) (hb : Below w.heap.size w w') : FreshA cf sz T B w' A cap xs := by
 rcases h with h | ⟨g, hA, hB, h⟩
 ·exact .inl h
 ·exact .inr ⟨g, hA, hB, h.below hb⟩
theorem FreshA.grown {row : Option Nat} (h : FreshA cf sz T B w A cap xs) (hg : w.grownBy w' row) (hne : ∀ a, A = some a → some a.block ≠ row) : FreshA cf sz T B w' A cap xs := by
 rcases h with h | ⟨g, rfl, hB, h⟩
 ·exact .inl h
 ·exact .inr ⟨g, rfl, hB, h.grown hg (hne _ rfl)⟩
theorem FreshA.mono {B' : Nat} (h : FreshA cf sz T B w A cap xs) (hB : B' ≤ B) : FreshA cf sz T B' w A cap xs := by
 rcases h with h | ⟨g, rfl, hg, h⟩
 ·exact .inl h
 ·exact .inr ⟨g, rfl, Nat.le_trans hB hg, h⟩
theorem Hi.mono {n m : Nat} (h : Hi n A) (hm : n ≤ m) : Hi m A := fun a ha => Nat.lt_of_lt_of_le (h a ha) hm
theorem Lo.mono {n m : Nat} (h : Lo n A) (hm : m ≤ n) : Lo m A := fun a ha => Nat.le_trans hm (h a ha)
/-- two slices of which one lies below, the other above -/
theorem apart_lh {A' : Option Addr} {n : Nat} (h : Hi n A) (h' : Lo n A') : ∀ a, A = some a → some a.block ≠ blkO A' := by
 intro a ha he
 cases hA' : A' with
 | none => rw [hA'] at he; cases he
 | some a' =>
  rw [hA'] at he
  have h1 := h a ha
  have h2 := h' a' hA'
  simp only [blkO, Option.map_some, Option.some.injEq] at he
  omega
theorem apart_hl {A' : Option Addr} {n : Nat} (h : Lo n A) (h' : Hi n A') : ∀ a, A = some a → some a.block ≠ blkO A' := by
 intro a ha he
 cases hA' : A' with
 | none => rw [hA'] at he; cases he
 | some a' =>
  rw [hA'] at he
  have h1 := h a ha
  have h2 := h' a' hA'
  simp only [blkO, Option.map_some, Option.some.injEq] at he
  omega
theorem below_grown {B : Nat} {a : World} (h : Below B a w) (hB : B ≤ w.heap.size) (hg : w.grownBy w' (blkO A)) (hl : Lo B A) : Below B a w' := by
 refine h.grown hg hB fun k hk => ?_
 cases hA : A with
 | none => rw [hA] at hk; cases hk
 | some x =>
  rw [hA] at hk
  simp only [blkO, Option.map_some, Option.some.injEq] at hk
  have := hl x hA
  omega

theorem flatMap_len (hcf : ∀ x, (cf x).length = sz) (xs : List α) : (xs.flatMap cf).length = xs.length * sz := by
 induction xs with
 | nil => simp
 | cons x xs ih => rw [List.flatMap_cons, List.length_append, hcf, ih, List.length_cons, Nat.succ_mul, Nat.add_comm]
theorem flatMap_at (hcf : ∀ x, (cf x).length = sz) : ∀ (xs : List α) (i : Nat) (x : α) (j : Nat), xs[i]? = some x → j < sz → (xs.flatMap cf)[i * sz + j]? = (cf x)[j]?
 | [], _, _, _, h, _ => by simp at h
 | y :: ys, 0, x, j, h, hj => by
  simp only [List.getElem?_cons_zero, Option.some.injEq] at h
  subst h
  rw [List.flatMap_cons, Nat.zero_mul, Nat.zero_add, List.getElem?_append_left (by rw [hcf]; exact hj)]
 | y :: ys, i + 1, x, j, h, hj => by
  simp only [List.getElem?_cons_succ] at h
  have e : (i + 1) * sz + j = sz + (i * sz + j) := by rw [Nat.succ_mul]; omega
  rw [List.flatMap_cons, e, List.getElem?_append_right (by rw [hcf]; omega), hcf, Nat.add_sub_cancel_left]
  exact flatMap_at hcf ys i x j h hj
theorem lt_of_cf (hcf : ∀ x, (cf x).length = sz) {x : α} {j : Nat} {v : Value} (h : (cf x)[j]? = some v) : j < sz := by
 rw [← hcf x]
 rcases Nat.lt_or_ge j (cf x).length with hl | hl
 ·exact hl
 ·rw [List.getElem?_eq_none hl] at h; cases h
theorem FreshA.of_own (hcf : ∀ x, (cf x).length = sz) {v : Value} (h : w.ownsRow B T sz v xs.length (xs.flatMap cf)) : ∃ A cap, v = .slice A xs.length cap ∧ FreshA cf sz T B w A cap xs := by
 obtain ⟨_, h⟩ := h
 rcases h with ⟨rfl, hn⟩ | ⟨g, cap, cur, rfl, hB, hh, hle, hm, hs, ht⟩
 ·have : xs = [] := List.eq_nil_of_length_eq_zero hn
  subst this
  exact ⟨none, 0, rfl, .inl ⟨rfl, rfl, rfl⟩⟩
 ·refine ⟨_, _, rfl, .inr ⟨g, rfl, hB, cur, hh, hs, hle, hm, fun i x hx j u hu => ?_⟩⟩
  have hj := lt_of_cf hcf hu
  have h1 := flatMap_at hcf xs i x j hx hj
  rw [← ht, hu] at h1
  have hi : i < xs.length := by
   rcases Nat.lt_or_ge i xs.length with hl | hl
   ·exact hl
   ·rw [List.getElem?_eq_none hl] at hx; cases hx
  have h2 : i * sz + j < xs.length * sz := by
   have : (i + 1) * sz ≤ xs.length * sz := Nat.mul_le_mul_right sz hi
   rw [Nat.succ_mul] at this
   omega
  rw [List.getElem?_take, if_pos h2] at h1
  simpa using h1
theorem OwnS.own (hcf : ∀ x, (cf x).length = sz) (hsz : 0 < sz) (h : OwnS cf sz T w g cap xs) (hB : B ≤ g) : w.ownsRow B T sz (.slice (some ⟨g, 0, none⟩) xs.length cap) xs.length (xs.flatMap cf) := by
 obtain ⟨cur, h1, h2, h3, h4, h5⟩ := h
 refine ⟨flatMap_len hcf xs, .inr ⟨g, cap, cur, rfl, hB, h1, h3, h4, h2, ?_⟩⟩
 refine List.ext_getElem? fun p => ?_
 rw [List.getElem?_take]
 by_cases hp : p < xs.length * sz
 ·rw [if_pos hp]
  have hi : p / sz < xs.length := Nat.div_lt_of_lt_mul (by rw [Nat.mul_comm]; exact hp)
  have hj : p % sz < sz := Nat.mod_lt _ hsz
  have e : p / sz * sz + p % sz = p := by rw [Nat.mul_comm]; exact Nat.div_add_mod p sz
  have hx : xs[p / sz]? = some xs[p / sz] := List.getElem?_eq_getElem hi
  have hv : (cf xs[p / sz])[p % sz]? = some ((cf xs[p / sz])[p % sz]'(by rw [hcf]; exact hj)) := List.getElem?_eq_getElem _
  have h6 := h5 _ _ hx _ _ hv
  have h7 := flatMap_at hcf xs _ _ _ hx hj
  rw [e] at h6 h7
  rw [h7, hv]
  simpa using h6
 ·rw [if_neg hp, List.getElem?_eq_none (by rw [flatMap_len hcf]; omega)]
theorem FreshA.own (hcf : ∀ x, (cf x).length = sz) (hsz : 0 < sz) (h : FreshA cf sz T B w A cap xs) : w.ownsRow B T sz (.slice A xs.length cap) xs.length (xs.flatMap cf) := by
 rcases h with ⟨rfl, rfl, rfl⟩ | ⟨g, rfl, hB, h⟩
 ·exact World.ownsRow_nil w B T sz
 ·exact h.own hcf hsz hB

theorem heap_setCell_self {cur : Array Value} {fr : Nat × Nat} (h : w.heap[g]? = some (.cells cur T fr)) (o : Nat) (u : Value) : (w.setCell ⟨g, o, none⟩ u).heap[g]? = some (.cells (cur.setIfInBounds o u) T fr) := by
 simp [World.setCell, Array.getElem?_modify, h]
def stores (w : World) (g : Nat) : Nat → List Value → World
 | _, [] => w
 | o, v :: vs => stores (w.setCell ⟨g, o, none⟩ v) g (o + 1) vs
theorem stores_heap : ∀ (vs : List Value) (w : World) (o : Nat) (cur : Array Value), w.heap[g]? = some (.cells cur T (0, 0)) → o + vs.length ≤ cur.size →
  ∃ cur' : Array Value, (stores w g o vs).heap[g]? = some (.cells cur' T (0, 0)) ∧ cur'.size = cur.size ∧ ∀ p, cur'[p]? = if o ≤ p ∧ p < o + vs.length then vs[p - o]? else cur[p]?
 | [], w, o, cur, h, _ => ⟨cur, h, rfl, fun p => by rw [if_neg (by simp only [List.length_nil]; omega)]⟩
 | v :: vs, w, o, cur, h, hl => by
  simp only [List.length_cons] at hl
  obtain ⟨cur', h1, h2, h3⟩ := stores_heap vs (w.setCell ⟨g, o, none⟩ v) (o + 1) _ (heap_setCell_self h o v) (by simp; omega)
  refine ⟨cur', h1, by simpa using h2, fun p => ?_⟩
  rw [h3]
  simp only [List.length_cons]
  by_cases hp : p = o
  ·subst hp
   rw [if_neg (by omega), if_pos (by omega)]
   simp [show p < cur.size by omega]
  ·by_cases hq : o + 1 ≤ p ∧ p < o + 1 + vs.length
   ·rw [if_pos hq, if_pos (by omega), show p - o = (p - (o + 1)) + 1 by omega, List.getElem?_cons_succ]
   ·rw [if_neg hq, if_neg (by omega), Array.getElem?_setIfInBounds_ne (fun e => hp e.symm)]
/-- one element more -/
theorem OwnS.push {x : α} (hcf : ∀ x, (cf x).length = sz) (h : OwnS cf sz T w g cap xs) (hlt : xs.length < cap) : OwnS cf sz T (stores w g (xs.length * sz) (cf x)) g cap (xs ++ [x]) := by
 obtain ⟨cur, h1, h2, h3, h4, h5⟩ := h
 have hroom : (xs.length + 1) * sz ≤ cap * sz := Nat.mul_le_mul_right sz hlt
 rw [Nat.succ_mul] at hroom
 obtain ⟨cur', e1, e2, e3⟩ := stores_heap (T := T) (cf x) w (xs.length * sz) cur h1 (by rw [hcf]; omega)
 refine ⟨cur', e1, e2.trans h2, by simp; omega, h4, fun i y hy j v hv => ?_⟩
 have hj := lt_of_cf hcf hv
 rw [e3, hcf]
 rw [List.getElem?_append] at hy
 split at hy
 ·rename_i hi
  have : (i + 1) * sz ≤ xs.length * sz := Nat.mul_le_mul_right sz hi
  rw [Nat.succ_mul] at this
  rw [if_neg (by omega)]
  exact h5 i y hy j v hv
 ·rename_i hi
  have hi' : i = xs.length := by
   rcases Nat.lt_or_ge (i - xs.length) 1 with h | h
   ·omega
   ·rw [List.getElem?_eq_none (by simpa using h)] at hy; cases hy
  subst hi'
  simp only [Nat.sub_self, List.getElem?_cons_zero, Option.some.injEq] at hy
  subst hy
  rw [if_pos (by omega), Nat.add_sub_cancel_left]
  exact hv
theorem OwnS.pushm {ys zs : List α} {x : α} {j : Nat} (hcf : ∀ x, (cf x).length = sz) (h : OwnS cf sz T w g cap ys) (hl : ys.length = j) (hs : zs = ys ++ [x]) (hj : j < cap) (hw : w' = stores w g (j * sz) (cf x)) : OwnS cf sz T w' g cap zs := by
 subst hl hs hw
 exact h.push hcf hj
theorem OwnS.pushk {k : Nat} (hcf : ∀ x, (cf x).length = sz) (h : OwnS cf sz T w g cap (xs.take k)) (hk : k < xs.length) (hc : xs.length ≤ cap) (hw : w' = stores w g (k * sz) (cf xs[k])) : OwnS cf sz T w' g cap (xs.take (k + 1)) :=
 h.pushm hcf (by rw [List.length_take]; omega) (List.take_succ_eq_append_getElem hk) (by omega) hw
theorem grown_set {a : World} (h : a.grownBy w (some g)) {o : Nat} {u : Value} : a.grownBy (w.setCell ⟨g, o, none⟩ u) (some g) :=
 ⟨h.os, h.tape, h.output, by simpa [World.setCell] using h.size, fun i hi hne => (Below.heap_setCell w ⟨g, o, none⟩ u i (fun e => hne (by rw [e]))).trans (h.block i hi hne)⟩
theorem make_run {P : Program} (t e : TypeId) (i : TypeInfo) (z : Value) (ht : P.underlying t = some (.slice e)) (hi : P.info? e = some i) (hz : i.zero = some z) (n : Nat) (hb : i.bytes * n ≤ 281474976710656) (hn : n ≤ 9223372036854775807) (w : World) :
  (Instr.makeSlice t (.int .i64 (n : Int)) (.int .i64 (n : Int))).run P w = .ok (.slice (some ⟨w.heap.size, 0, none⟩) n n) (w.alloc (.cells (madeCells z.cells (n * i.size)) e)) := by
 have hb' : (i.bytes : Int) * (n : Int) ≤ 281474976710656 := by
  have h : ((i.bytes * n : Nat) : Int) ≤ 281474976710656 := by omega
  rwa [Int.natCast_mul] at h
 have hr := run_make (P := P) (w := w) t e i z ht hi hz .i64 .i64 n n (by omega) (by omega) hb' (by omega)
 simpa only [Int.toNat_natCast] using hr
theorem stores_below {B : Nat} {a : World} : ∀ (vs : List Value) (w : World) (o : Nat), Below B a w → B ≤ g → Below B a (stores w g o vs)
 | [], _, _, h, _ => h
 | _ :: vs, _, _, h, hB => stores_below vs _ _ (h.setCell (p := ⟨g, _, none⟩) hB _) hB
end

/-- a fresh row that a helper made -/
def FreshRow {α : Type} (cf : α → List Value) (sz : Nat) (T : TypeId) (B : Nat) (xs : List α) (v : Value) (w : World) : Prop := ∃ g, v = .slice (some ⟨g, 0, none⟩) xs.length xs.length ∧ B ≤ g ∧ OwnS cf sz T w g xs.length xs
theorem FreshRow.stable {α : Type} {cf : α → List Value} {sz : Nat} {T : TypeId} {B : Nat} {xs : List α} : Stable (FreshRow cf sz T B xs) := fun _ _ _ h hb => by
 obtain ⟨g, h1, h2, h3⟩ := h
 exact ⟨g, h1, h2, h3.below hb⟩
theorem FreshRow.ltv {α : Type} {cf : α → List Value} {sz : Nat} {T : TypeId} {B : Nat} {xs : List α} {v : Value} {w : World} (h : FreshRow cf sz T B xs v w) : blkV v < w.heap.size := by
 obtain ⟨g, rfl, _, h3⟩ := h
 exact h3.lt
/-- 'out = append(out, y)' on a slice of the call's own, in this file's words -/
theorem wp_push {P : Program} {α : Type} {cf : α → List Value} {w : World} {o : Oper} {a : Act} {K : Act → World → Prop} {Q : Exit → Act → World → Prop} (s x : Operand) (t : TypeId)
  (ho : o.op = .call { callee := .builtin .append, args := #[s, x], argTypes := #[t, t] })
  (e : TypeId) (i : TypeInfo) (z : Value) (sz bytes : Nat) (ht : P.underlying t = some (.slice e)) (hi : P.info? e = some i) (hz : i.zero = some z)
  (hsize : i.size = sz) (hby : i.bytes = bytes) (hzs : z.cells.size = sz) (hsz : 0 < sz) (hcf : ∀ x, (cf x).length = sz) (hone : ∀ x, ∀ u ∈ cf x, u.oneCell' = true)
  (B : Nat) (A : Option Addr) (n cap : Nat) (xs : List α) (hn : xs.length = n) (hs : a.eval s = .slice A n cap) (hF : FreshA cf sz e B w A cap xs)
  (y : α) (gb c : Nat) (hx : a.eval x = .slice (some ⟨gb, 0, none⟩) 1 c) (hnews : ∀ j u, (cf y)[j]? = some u → w.cell? ⟨gb, j, none⟩ = some u)
  (h63 : n + 1 ≤ maxLen) (hbytes : (n + 1) * bytes ≤ 140737488355328) (hbase : B ≤ w.heap.size)
  (h : ∀ A' cap' w', FreshA cf sz e B w' A' cap' (xs ++ [y]) → w.grownBy w' (blkO A) → (blkO A' = blkO A ∨ blkO A' = some w.heap.size) → K (a.put o.dst (.slice A' (n + 1) cap')) w') : o.wp P a w K Q := by
 subst hn
 have hown := hF.own hcf hsz
 obtain ⟨v', w', hrun, hown', hg, _, hat⟩ := run_append_own_at (P := P) w B t o.type e i z sz bytes ht hi hz hsize hby hzs hsz _ _ _ hown ⟨gb, 0, none⟩ 1 c (cf y) (by rw [hcf, Nat.one_mul]) (fun j u hu => by
  have e : (⟨gb, 0, none⟩ : Addr).add j = ⟨gb, j, none⟩ := by
   unfold Addr.add
   by_cases hj : j = 0 <;> simp [hj]
  rw [e]
  exact hnews j u hu) (hone y) h63 hbytes hbase
 unfold Oper.wp execOp
 simp only [ho, resolve, invoke, builtin, Sem.run_bind, Sem.run_pure, Result.andThen_ok, List.map_toArray, List.map_cons, List.map_nil, hs, hx, hrun]
 have hl : (xs ++ [y]).length = xs.length + 1 := by simp
 have hown2 : w'.ownsRow B e sz v' (xs ++ [y]).length ((xs ++ [y]).flatMap cf) := by
  rw [hl, List.flatMap_append, List.flatMap_cons, List.flatMap_nil, List.append_nil]
  exact hown'
 obtain ⟨A', cap', rfl, hF'⟩ := FreshA.of_own hcf hown2
 have hb : ∀ (A : Option Addr) (n c : Nat), (Value.slice A n c).ownBlock = blkO A := fun A n c => by cases A <;> rfl
 rw [hb] at hg
 rw [hb, hb] at hat
 have := h A' cap' w' hF' hg hat
 rw [hl]
 exact this
theorem wpList_push {P : Program} {α : Type} {cf : α → List Value} {w : World} {ops : Array Oper} {rest : List Oper} {o : Oper} {a : Act} {Q : Exit → Act → World → Prop} (hgd : o.guard = none) (s x : Operand) (t : TypeId)
  (ho : o.op = .call { callee := .builtin .append, args := #[s, x], argTypes := #[t, t] })
  (e : TypeId) (i : TypeInfo) (z : Value) (sz bytes : Nat) (ht : P.underlying t = some (.slice e)) (hi : P.info? e = some i) (hz : i.zero = some z)
  (hsize : i.size = sz) (hby : i.bytes = bytes) (hzs : z.cells.size = sz) (hsz : 0 < sz) (hcf : ∀ x, (cf x).length = sz) (hone : ∀ x, ∀ u ∈ cf x, u.oneCell' = true)
  (B : Nat) (A : Option Addr) (n cap : Nat) (xs : List α) (hn : xs.length = n) (hs : a.eval s = .slice A n cap) (hF : FreshA cf sz e B w A cap xs)
  (y : α) (gb c : Nat) (hx : a.eval x = .slice (some ⟨gb, 0, none⟩) 1 c) (hnews : ∀ j u, (cf y)[j]? = some u → w.cell? ⟨gb, j, none⟩ = some u)
  (h63 : n + 1 ≤ maxLen) (hbytes : (n + 1) * bytes ≤ 140737488355328) (hbase : B ≤ w.heap.size)
  (h : ∀ A' cap' w', FreshA cf sz e B w' A' cap' (xs ++ [y]) → w.grownBy w' (blkO A) → (blkO A' = blkO A ∨ blkO A' = some w.heap.size) → wpList P ops Q rest (a.put o.dst (.slice A' (n + 1) cap')) w') : wpList P ops Q (o :: rest) a w :=
 wpList_plain hgd fun _ hK => wp_push s x t ho e i z sz bytes ht hi hz hsize hby hzs hsz hcf hone B A n cap xs hn hs hF y gb c hx hnews h63 hbytes hbase fun A' cap' w' h1 h2 h3 => hK _ _ (h A' cap' w' h1 h2 h3)
/-- block G is not the slice's own -/
def NeB (G : Nat) (A : Option Addr) : Prop := ∀ a, A = some a → a.block ≠ G
theorem NeB.next {G n : Nat} {A A' : Option Addr} (h : NeB G A) (hat : blkO A' = blkO A ∨ blkO A' = some n) (hn : G < n) : NeB G A' := by
 intro a ha
 rcases hat with e | e
 ·rw [ha] at e
  cases hA : A with
  | none => rw [hA] at e; cases e
  | some a0 =>
   rw [hA] at e
   simp only [blkO, Option.map_some, Option.some.injEq] at e
   rw [e]
   exact h a0 hA
 ·rw [ha] at e
  simp only [blkO, Option.map_some, Option.some.injEq] at e
  omega
theorem NeB.block {G : Nat} {A : Option Addr} {W w' : World} (h : NeB G A) (hg : W.grownBy w' (blkO A)) (hG : G < W.heap.size) : w'.heap[G]? = W.heap[G]? := by
 refine hg.block G hG fun e => ?_
 cases hA : A with
 | none => rw [hA] at e; cases e
 | some a =>
  rw [hA] at e
  simp only [blkO, Option.map_some, Option.some.injEq] at e
  exact h a hA e.symm
theorem NeB.cell {G : Nat} {A : Option Addr} {W w' : World} (h : NeB G A) (hg : W.grownBy w' (blkO A)) (hG : G < W.heap.size) (o : Nat) : w'.cell? ⟨G, o, none⟩ = W.cell? ⟨G, o, none⟩ := World.cell?_of_block (a := ⟨G, o, none⟩) (h.block hg hG)
theorem NeB.frozen {G : Nat} {A : Option Addr} {W w' : World} (h : NeB G A) (hg : W.grownBy w' (blkO A)) (hG : G < W.heap.size) (o : Nat) : w'.frozen? ⟨G, o, none⟩ = W.frozen? ⟨G, o, none⟩ := World.frozen?_of_block (a := ⟨G, o, none⟩) (h.block hg hG)
theorem cellGrown {W w' : World} {A : Option Addr} {B n : Nat} (hg : W.grownBy w' (blkO A)) (hl : Lo B A) (hh : Hi n A) : ∀ b o, w'.cell? ⟨b, o, none⟩ = if b < W.heap.size ∧ (b < B ∨ n ≤ b) then W.cell? ⟨b, o, none⟩ else far w' b o := by
 intro b o
 by_cases h : b < W.heap.size ∧ (b < B ∨ n ≤ b)
 ·rw [if_pos h]
  refine World.cell?_of_block (a := ⟨b, o, none⟩) (hg.block b h.1 fun e => ?_)
  cases hA : A with
  | none => rw [hA] at e; cases e
  | some a =>
   rw [hA] at e
   simp only [blkO, Option.map_some, Option.some.injEq] at e
   have h1 := hl a hA
   have h2 := hh a hA
   omega
 ·rw [if_neg h]; rfl
theorem frozGrown {W w' : World} {A : Option Addr} {B n : Nat} (hg : W.grownBy w' (blkO A)) (hl : Lo B A) (hh : Hi n A) : ∀ b o, w'.frozen? ⟨b, o, none⟩ = if b < W.heap.size ∧ (b < B ∨ n ≤ b) then W.frozen? ⟨b, o, none⟩ else farz w' b o := by
 intro b o
 by_cases h : b < W.heap.size ∧ (b < B ∨ n ≤ b)
 ·rw [if_pos h]
  refine World.frozen?_of_block (a := ⟨b, o, none⟩) (hg.block b h.1 fun e => ?_)
  cases hA : A with
  | none => rw [hA] at e; cases e
  | some a =>
   rw [hA] at e
   simp only [blkO, Option.map_some, Option.some.injEq] at e
   have h1 := hl a hA
   have h2 := hh a hA
   omega
 ·rw [if_neg h]; rfl
theorem below_of_grown {W w' : World} {A : Option Addr} {B : Nat} (hg : W.grownBy w' (blkO A)) (hl : Lo B A) (hB : B ≤ W.heap.size) : Below B W w' := below_grown (Below.refl B W) hB hg hl
theorem OwnS.set_far {α : Type} {cf : α → List Value} {sz : Nat} {T : TypeId} {w : World} {g cap : Nat} {xs : List α} (h : OwnS cf sz T w g cap xs) {p : Addr} (hp : g ≠ p.block) (u : Value) : OwnS cf sz T (w.setCell p u) g cap xs := h.block (Below.heap_setCell w p u g hp)
theorem FreshA.set_low {α : Type} {cf : α → List Value} {sz : Nat} {T : TypeId} {B cap : Nat} {w : World} {A : Option Addr} {xs : List α} (h : FreshA cf sz T B w A cap xs) {p : Addr} (hp : p.block < B) (u : Value) : FreshA cf sz T B (w.setCell p u) A cap xs := by
 rcases h with h | ⟨g, hA, hB, h⟩
 ·exact .inl h
 ·exact .inr ⟨g, hA, hB, h.set_far (by omega) u⟩
/-- a tuple whose first is a slice of the callee's own -/
def TupS {α : Type} (cf : α → List Value) (sz : Nat) (T : TypeId) (B : Nat) (L : List α) (rest : List Value) (v : Value) (w : World) : Prop := ∃ A cap, v = .tuple (Value.slice A L.length cap :: rest).toArray ∧ FreshA cf sz T B w A cap L
theorem TupS.stable {α : Type} {cf : α → List Value} {sz : Nat} {T : TypeId} {B : Nat} {L : List α} {rest : List Value} : Stable (TupS cf sz T B L rest) := fun _ _ _ h hb => by
 obtain ⟨A, cap, h1, h2⟩ := h
 exact ⟨A, cap, h1, h2.below hb⟩
def SlF {α : Type} (cf : α → List Value) (sz : Nat) (T : TypeId) (B : Nat) (L : List α) (v : Value) (w : World) : Prop := ∃ A cap, v = .slice A L.length cap ∧ FreshA cf sz T B w A cap L
theorem SlF.stable {α : Type} {cf : α → List Value} {sz : Nat} {T : TypeId} {B : Nat} {L : List α} : Stable (SlF cf sz T B L) := fun _ _ _ h hb => by
 obtain ⟨A, cap, h1, h2⟩ := h
 exact ⟨A, cap, h1, h2.below hb⟩
/-- what reads below survives a write into a row from n on -/
theorem Rds.past {α : Type} {cf : α → List Value} {sz : Nat} {w0 W W' : World} {A Ax : Option Addr} {xs : List α} {n : Nat} (h : Rds cf sz w0 A xs) (hb : Below w0.heap.size w0 W) (hg : W.grownBy W' (blkO Ax)) (hl : Lo n Ax) (hn : w0.heap.size ≤ n) : Rds cf sz W' A xs := by
 intro i x hx
 obtain ⟨b, off, hA, hlt, hc⟩ := h i x hx
 have hne : some b ≠ blkO Ax := by
  intro e
  cases hAx : Ax with
  | none => rw [hAx] at e; cases e
  | some a =>
   rw [hAx] at e
   simp only [blkO, Option.map_some, Option.some.injEq] at e
   have := hl a hAx
   omega
 have hW : b < W.heap.size := Nat.lt_of_lt_of_le hlt hb.size
 refine ⟨b, off, hA, Nat.lt_of_lt_of_le hW hg.size, fun j v hv => ?_⟩
 have h1 := World.cell?_of_block (a := ⟨b, off + i * sz + j, none⟩) (hg.block b hW hne)
 have h2 := hb.cell (p := ⟨b, off + i * sz + j, none⟩) hlt
 exact (h1.trans h2).trans (hc j v hv)
theorem FreshA.set_ne {α : Type} {cf : α → List Value} {sz : Nat} {T : TypeId} {B cap G : Nat} {w : World} {A : Option Addr} {xs : List α} (h : FreshA cf sz T B w A cap xs) (hne : NeB G A) (o : Nat) (u : Value) : FreshA cf sz T B (w.setCell ⟨G, o, none⟩ u) A cap xs := by
 rcases h with h | ⟨g, hA, hB, h⟩
 ·exact .inl h
 ·exact .inr ⟨g, hA, hB, h.set_far (p := ⟨G, o, none⟩) (hne _ hA) u⟩
/-- reads as a list, all its cells below block n -/
def RdsN {α : Type} (n : Nat) (cf : α → List Value) (sz : Nat) (w : World) (A : Option Addr) (xs : List α) : Prop :=
 ∀ i x, xs[i]? = some x → ∃ b off, A = some ⟨b, off, none⟩ ∧ b < n ∧ ∀ j v, (cf x)[j]? = some v → w.cell? ⟨b, off + i * sz + j, none⟩ = some v
theorem Rds.toN {α : Type} {cf : α → List Value} {sz : Nat} {w : World} {A : Option Addr} {xs : List α} (h : Rds cf sz w A xs) : RdsN w.heap.size cf sz w A xs := h
theorem RdsN.rds {α : Type} {n : Nat} {cf : α → List Value} {sz : Nat} {w : World} {A : Option Addr} {xs : List α} (h : RdsN n cf sz w A xs) (hn : n ≤ w.heap.size) : Rds cf sz w A xs := by
 intro i x hx
 obtain ⟨b, off, hA, hlt, hc⟩ := h i x hx
 exact ⟨b, off, hA, by omega, hc⟩
theorem RdsN.past {α : Type} {cf : α → List Value} {sz : Nat} {w0 W W' : World} {A Ax : Option Addr} {xs : List α} {m n : Nat} (h : RdsN m cf sz w0 A xs) (hm : m ≤ w0.heap.size) (hb : Below w0.heap.size w0 W) (hg : W.grownBy W' (blkO Ax)) (hl : Lo n Ax) (hn : m ≤ n) : RdsN m cf sz W' A xs := by
 intro i x hx
 obtain ⟨b, off, hA, hlt, hc⟩ := h i x hx
 have hne : some b ≠ blkO Ax := by
  intro e
  cases hAx : Ax with
  | none => rw [hAx] at e; cases e
  | some a =>
   rw [hAx] at e
   simp only [blkO, Option.map_some, Option.some.injEq] at e
   have := hl a hAx
   omega
 have hW : b < W.heap.size := by have := hb.size; omega
 refine ⟨b, off, hA, hlt, fun j v hv => ?_⟩
 have h1 := World.cell?_of_block (a := ⟨b, off + i * sz + j, none⟩) (hg.block b hW hne)
 have h2 := hb.cell (p := ⟨b, off + i * sz + j, none⟩) (by show b < _; omega)
 exact (h1.trans h2).trans (hc j v hv)
theorem RdsN.ofHi {α : Type} {n : Nat} {cf : α → List Value} {sz : Nat} {w : World} {A : Option Addr} {xs : List α} (h : Rds cf sz w A xs) (hh : Hi n A) : RdsN n cf sz w A xs := by
 intro i x hx
 obtain ⟨b, off, hA, _, hc⟩ := h i x hx
 exact ⟨b, off, hA, hh _ hA, hc⟩

theorem hid {p : Prop} (h : p) : Hid p := h

def idxF {α : Type} (p : α → Bool) (xs : List α) : Int := match xs.findIdx? p with | some i => (i : Int) | none => -1
theorem idxF_hit {α : Type} {p : α → Bool} {xs : List α} {k : Nat} (hl : (xs.take k).any p = false) (h : k < xs.length) (hp : p xs[k] = true) : idxF p xs = k := by
 have : xs.findIdx? p = some k := by
  rw [List.findIdx?_eq_some_iff_getElem]
  refine ⟨h, hp, fun j hj => ?_⟩
  rw [List.any_eq_false] at hl
  have := hl xs[j] (List.mem_take_iff_getElem.2 ⟨j, by omega, rfl⟩)
  simpa using this
 simp [idxF, this]
theorem idxF_none {α : Type} {p : α → Bool} {xs : List α} (hl : xs.any p = false) : idxF p xs = -1 := by
 have : xs.findIdx? p = none := by
  rw [List.findIdx?_eq_none_iff]
  rw [List.any_eq_false] at hl
  intro x hx
  simpa using hl x hx
 simp [idxF, this]
theorem idxF_any {α : Type} (p : α → Bool) (xs : List α) : (0 ≤ idxF p xs) ↔ xs.any p = true := by
 cases h : xs.any p with
 | false => rw [idxF_none h]; simp
 | true =>
  unfold idxF
  cases hf : xs.findIdx? p with
  | none =>
   rw [List.findIdx?_eq_none_iff] at hf
   rw [List.any_eq_true] at h
   obtain ⟨x, hx, hp⟩ := h
   rw [hf x hx] at hp; cases hp
  | some i => simp
theorem any_snoc {α : Type} (p : α → Bool) (xs : List α) (k : Nat) (h : k < xs.length) : (xs.take (k + 1)).any p = ((xs.take k).any p || p xs[k]) := by
 rw [List.take_succ_eq_append_getElem h, List.any_append]; simp
theorem any_hit {α : Type} {p : α → Bool} {xs : List α} {k : Nat} (h : k < xs.length) (hp : p xs[k] = true) : xs.any p = true := by
 rw [List.any_eq_true]; exact ⟨xs[k], List.getElem_mem h, hp⟩

end Go.Proofs.Yteciijnpfapmhaa
namespace Go.Proofs.Yteciijnpfapmhaa
set_option linter.unusedSimpArgs false
set_option linter.unusedVariables false
open Go.RowKit

def goodI (a b : Int) : Bool := decide (0 ≤ a ∧ a ≤ b ∧ b ≤ 9999)
theorem goodI_bd {a b : Int} (h : goodI a b = true) : 0 ≤ a ∧ a ≤ b ∧ b ≤ 9999 := by simpa [goodI] using h
def minB (a : Int) : Bool := decide (0 ≤ a ∧ a ≤ 9999)
theorem minB_bd {a : Int} (h : minB a = true) : 0 ≤ a ∧ a ≤ 9999 := by simpa [minB] using h
def inB (a b c : Int) : Bool := decide (b ≤ a ∧ a ≤ c)
theorem inB_bd {a b c : Int} (h : inB a b c = true) : b ≤ a ∧ a ≤ c := by simpa [inB] using h

end Go.Proofs.Yteciijnpfapmhaa
namespace Go.Proofs.Yteciijnpfapmhaa
set_option linter.unusedSimpArgs false
set_option linter.unusedVariables false
open Go.RowKit

def vAt {α : Type} (good : α → Bool) (lt : α → α → Bool) (xs : List α) (k : Nat) : Bool :=
 match xs[k]? with
 | some x => good x && (match k with | 0 => true | k' + 1 => (match xs[k']? with | some y => lt y x | none => true))
 | none => true
def vB {α : Type} (good : α → Bool) (lt : α → α → Bool) (n : Nat) (xs : List α) : Bool := (List.range xs.length).all (vAt good lt xs) && decide (xs.length ≤ n)
section
variable {α : Type} {good : α → Bool} {lt : α → α → Bool} {n : Nat} {xs : List α}
theorem vAt_zero (h : 0 < xs.length) : vAt good lt xs 0 = good xs[0] := by simp [vAt, h]
theorem vAt_succ (k : Nat) (h : k + 1 < xs.length) : vAt good lt xs (k + 1) = (good xs[k + 1] && lt xs[k] xs[k + 1]) := by
 have h' : k < xs.length := by omega
 simp [vAt, h, h']
theorem vB_bad {k : Nat} (h : k < xs.length) (hv : vAt good lt xs k = false) : vB good lt n xs = false := by
 have : (List.range xs.length).all (vAt good lt xs) = false := by
  rw [List.all_eq_false]
  exact ⟨k, List.mem_range.2 h, by simp [hv]⟩
 simp [vB, this]
theorem vB_all (h : ∀ j, j < xs.length → vAt good lt xs j = true) : vB good lt n xs = decide (xs.length ≤ n) := by
 have : (List.range xs.length).all (vAt good lt xs) = true := by
  rw [List.all_eq_true]
  exact fun j hj => h j (List.mem_range.1 hj)
 simp [vB, this]
theorem vB_long (h : n < xs.length) : vB good lt n xs = false := by
 simp only [vB, Bool.and_eq_false_iff, decide_eq_false_iff_not]
 right
 omega
theorem vB_len (h : vB good lt n xs = true) : xs.length ≤ n := by
 simp only [vB, Bool.and_eq_true, decide_eq_true_eq] at h
 exact h.2
theorem vB_at (h : vB good lt n xs = true) (k : Nat) (hk : k < xs.length) : good xs[k] = true := by
 simp only [vB, Bool.and_eq_true, List.all_eq_true, List.mem_range] at h
 have := h.1 k hk
 cases k with
 | zero => rwa [vAt_zero hk] at this
 | succ k => rw [vAt_succ k hk, Bool.and_eq_true] at this; exact this.1
theorem vB_lt (h : vB good lt n xs = true) (k : Nat) (hk : k + 1 < xs.length) : lt xs[k] xs[k + 1] = true := by
 simp only [vB, Bool.and_eq_true, List.all_eq_true, List.mem_range] at h
 have := h.1 (k + 1) hk
 rw [vAt_succ k hk, Bool.and_eq_true] at this
 exact this.2
/-- all elements of a list that reads -/
theorem Rds.all {cf : α → List Value} {sz : Nat} {w : World} {A : Option Addr} (h : Rds cf sz w A xs) (h0 : 0 < xs.length) :
  ∃ b off, A = some ⟨b, off, none⟩ ∧ b < w.heap.size ∧ ∀ i (hi : i < xs.length) j v, (cf xs[i])[j]? = some v → w.cell? ⟨b, off + i * sz + j, none⟩ = some v := by
 obtain ⟨b, off, hA, hb, _⟩ := h 0 xs[0] (List.getElem?_eq_getElem h0)
 refine ⟨b, off, hA, hb, fun i hi j v hv => ?_⟩
 obtain ⟨b', off', hA', _, hc⟩ := h i xs[i] (List.getElem?_eq_getElem hi)
 rw [hA] at hA'
 cases hA'
 exact hc j v hv
end

end Go.Proofs.Yteciijnpfapmhaa
namespace Go.Proofs.Yteciijnpfapmhaa
set_option linter.unusedSimpArgs false
set_option linter.unusedVariables false
open Go.RowKit

def cIv (x : (Int × Int)) : List Value := [.int .i64 (x.1), .int .i64 (x.2)]
theorem cIv_len (x : (Int × Int)) : (cIv x).length = 2 := rfl

def mkIv (n : Nat) (k : Int) : List (Int × Int) := (List.range n).map fun (i : Nat) => (k + 2 * (i : Int), k + 2 * (i : Int) + 1)

theorem mkIv_len (n : Nat) (k : Int) : (mkIv n k).length = n := by simp [mkIv]
theorem mkIv_at (n : Nat) (k : Int) (j : Nat) (h : j < n) (h' : j < (mkIv n k).length) : (mkIv n k)[j] = (k + 2 * (j : Int), k + 2 * (j : Int) + 1) := by simp [mkIv]

theorem mkIv_snoc (j : Nat) (k : Int) : mkIv (j + 1) k = mkIv j k ++ [(k + 2 * (j : Int), k + 2 * (j : Int) + 1)] := by simp [mkIv, List.range_succ]

theorem news_Iv (w : World) (g : Nat) (x : (Int × Int)) (h0 : w.cell? ⟨g, 0, none⟩ = some (.int .i64 (x.1))) (h1 : w.cell? ⟨g, 1, none⟩ = some (.int .i64 (x.2))) : ∀ j u, (cIv x)[j]? = some u → w.cell? ⟨g, j, none⟩ = some u := by
 intro j u hu
 match j, hu with
 | 0, hu => cases hu; exact h0
 | 1, hu => cases hu; exact h1
 | j + 2, hu => simp [cIv] at hu

theorem one_Iv : ∀ x, ∀ u ∈ cIv x, u.oneCell' = true := by
 intro x u hu
 simp [cIv] at hu
 rcases hu with rfl | rfl <;> rfl

def cIn (x : (Int)) : List Value := [.int .i64 (x)]
theorem cIn_len (x : (Int)) : (cIn x).length = 1 := rfl

def mkIn (n : Nat) (k : Int) : List (Int) := (List.range n).map fun (i : Nat) => (k + (i : Int))

theorem mkIn_len (n : Nat) (k : Int) : (mkIn n k).length = n := by simp [mkIn]
theorem mkIn_at (n : Nat) (k : Int) (j : Nat) (h : j < n) (h' : j < (mkIn n k).length) : (mkIn n k)[j] = (k + (j : Int)) := by simp [mkIn]

theorem mkIn_snoc (j : Nat) (k : Int) : mkIn (j + 1) k = mkIn j k ++ [(k + (j : Int))] := by simp [mkIn, List.range_succ]

theorem news_In (w : World) (g : Nat) (x : (Int)) (h0 : w.cell? ⟨g, 0, none⟩ = some (.int .i64 (x))) : ∀ j u, (cIn x)[j]? = some u → w.cell? ⟨g, j, none⟩ = some u := by
 intro j u hu
 match j, hu with
 | 0, hu => cases hu; exact h0
 | j + 1, hu => simp [cIn] at hu

theorem one_In : ∀ x, ∀ u ∈ cIn x, u.oneCell' = true := by
 intro x u hu
 simp [cIn] at hu
 subst hu
 rfl

def ivOk (x : Int × Int) : Bool := goodI x.1 x.2
def ivLt (y x : Int × Int) : Bool := decide (y.2 < x.1)
def brB (d : Int) (xs : List (Int × Int)) : Bool := inB d 1 30 && vB ivOk ivLt 6 xs
theorem brB_dur {d : Int} {xs : List (Int × Int)} (h : brB d xs = true) : 1 ≤ d ∧ d ≤ 30 := by
 simp only [brB, Bool.and_eq_true] at h
 exact inB_bd h.1
theorem brB_v {d : Int} {xs : List (Int × Int)} (h : brB d xs = true) : vB ivOk ivLt 6 xs = true := by
 simp only [brB, Bool.and_eq_true] at h
 exact h.2
def ivP (x : Int × Int) : Prop := 0 ≤ x.1 ∧ x.1 ≤ x.2 ∧ x.2 ≤ 9999
theorem brB_P {d : Int} {xs : List (Int × Int)} (h : brB d xs = true) : ∀ k (hk : k < xs.length), ivP xs[k] := fun k hk => goodI_bd (vB_at (brB_v h) k hk)
theorem brB_len {d : Int} {xs : List (Int × Int)} (h : brB d xs = true) : xs.length ≤ 6 := vB_len (brB_v h)
def hitI (t d : Int) (x : Int × Int) : Bool := decide (t ≤ x.2 ∧ x.1 ≤ t + d - 1)
def mayB (d : Int) (xs : List (Int × Int)) (t : Int) : Bool := decide (0 ≤ t ∧ t + d ≤ 10000) && !(xs.any (hitI t d))
theorem mayB_bd {d : Int} {xs : List (Int × Int)} {t : Int} (h : mayB d xs t = true) : 0 ≤ t ∧ t + d ≤ 10000 := by
 simp only [mayB, Bool.and_eq_true, decide_eq_true_eq] at h
 exact h.1
def mayV (d : Int) (xs : List (Int × Int)) (t : Int) : Bool × Bool := if brB d xs = true ∧ minB t = true then (mayB d xs t, true) else (false, false)
theorem find_range_hit {n : Nat} {p : Nat → Bool} {c : Nat} (hc : c < n) (hl : ∀ i, i < c → p i = false) (hp : p c = true) : (List.range n).find? p = some c := by
 rw [List.find?_eq_some_iff_getElem]
 refine ⟨hp, c, by simpa using hc, by simp, fun j hj => ?_⟩
 simp [hl j hj]
theorem find_range_none {n : Nat} {p : Nat → Bool} (hl : ∀ i, i < n → p i = false) : (List.range n).find? p = none := by
 rw [List.find?_eq_none]
 intro x hx
 simp [hl x (List.mem_range.1 hx)]
/-- the first minute from t on at which an opening may begin -/
def nextF (d : Int) (xs : List (Int × Int)) (t : Int) : Option Nat := (List.range (10000 - t).toNat).find? fun j : Nat => mayB d xs (t + j)
theorem nextF_hit {d : Int} {xs : List (Int × Int)} {t : Int} {j : Nat} (hj : t + j ≤ 9999) (hl : ∀ i : Nat, i < j → mayB d xs (t + i) = false) (hp : mayB d xs (t + j) = true) : nextF d xs t = some j := find_range_hit (by omega) hl hp
theorem nextF_none {d : Int} {xs : List (Int × Int)} {t : Int} (hl : ∀ i : Nat, t + i ≤ 9999 → mayB d xs (t + i) = false) : nextF d xs t = none := find_range_none fun i hi => hl i (by omega)
def nextR (t : Int) (r : Option Nat) : Int × Bool := match r with | some j => (t + j, true) | none => (0, false)
def nextV (d : Int) (xs : List (Int × Int)) (t : Int) : Int × Bool := if brB d xs = true ∧ minB t = true then nextR t (nextF d xs t) else (0, false)
/-- the last minute in f..t at which an opening may begin -/
def lastF (d : Int) (xs : List (Int × Int)) (f t : Int) : Option Int := ((List.range (t - f + 1).toNat).find? fun j : Nat => mayB d xs (t - j)).map fun j : Nat => t - (j : Int)
theorem lastF_hit {d : Int} {xs : List (Int × Int)} {f t u : Int} (h1 : f ≤ u) (h2 : u ≤ t) (hl : ∀ v : Int, u < v → v ≤ t → mayB d xs v = false) (hp : mayB d xs u = true) : lastF d xs f t = some u := by
 have e : t - ((t - u).toNat : Int) = u := by omega
 have : (List.range (t - f + 1).toNat).find? (fun j : Nat => mayB d xs (t - j)) = some (t - u).toNat := by
  refine find_range_hit (by omega) (fun i hi => hl _ (by omega) (by omega)) ?_
  show mayB d xs (t - ((t - u).toNat : Int)) = true
  rw [e]; exact hp
 unfold lastF
 rw [this]
 show some (t - ((t - u).toNat : Int)) = some u
 rw [e]
theorem lastF_none {d : Int} {xs : List (Int × Int)} {f t : Int} (hl : ∀ v : Int, f ≤ v → v ≤ t → mayB d xs v = false) : lastF d xs f t = none := by
 unfold lastF
 rw [find_range_none fun i hi => hl _ (by omega) (by omega)]
 rfl
theorem lastF_some {d : Int} {xs : List (Int × Int)} {f t u : Int} (h : lastF d xs f t = some u) : f ≤ u ∧ u ≤ t ∧ mayB d xs u = true ∧ ∀ v : Int, u < v → v ≤ t → mayB d xs v = false := by
 unfold lastF at h
 rw [Option.map_eq_some_iff] at h
 obtain ⟨j, hj, rfl⟩ := h
 rw [List.find?_eq_some_iff_getElem] at hj
 obtain ⟨hp, i, hi, he, hall⟩ := hj
 simp at hi he
 subst he
 refine ⟨by omega, by omega, hp, fun v h1 h2 => ?_⟩
 have := hall (t - v).toNat (by omega)
 simp at this
 rwa [show t - max (t - v) 0 = v by omega] at this
theorem lastF_no {d : Int} {xs : List (Int × Int)} {f t : Int} (h : lastF d xs f t = none) : ∀ v : Int, f ≤ v → v ≤ t → mayB d xs v = false := by
 intro v h1 h2
 unfold lastF at h
 rw [Option.map_eq_none_iff, List.find?_eq_none] at h
 have := h (t - v).toNat (List.mem_range.2 (by omega))
 simp at this
 rwa [show t - max (t - v) 0 = v by omega] at this
theorem lastF_min {d : Int} {xs : List (Int × Int)} (hd : 1 ≤ d) (f t : Int) : lastF d xs f t = lastF d xs f (min t 9999) := by
 have hbig : ∀ v : Int, 9999 < v → mayB d xs v = false := by
  intro v hv
  cases h : mayB d xs v with
  | false => rfl
  | true => have := mayB_bd h; omega
 cases h : lastF d xs f (min t 9999) with
 | none =>
  have := lastF_no h
  refine lastF_none fun v h1 h2 => ?_
  by_cases hv : v ≤ 9999
  ·exact this v h1 (by omega)
  ·exact hbig v (by omega)
 | some u =>
  obtain ⟨h1, h2, h3, h4⟩ := lastF_some h
  refine lastF_hit h1 (by omega) (fun v hv1 hv2 => ?_) h3
  by_cases hv : v ≤ 9999
  ·exact h4 v hv1 (by omega)
  ·exact hbig v (by omega)
def lastR (r : Option Int) : Int × Bool := match r with | some u => (u, true) | none => (0, false)
def lastV (d : Int) (xs : List (Int × Int)) (f t : Int) : Int × Bool := if brB d xs = true ∧ minB f = true ∧ minB t = true then lastR (lastF d xs f t) else (0, false)
/-- requests -/
def reqLe (y x : Int) : Bool := decide (y ≤ x)
def reqB (d : Int) (xs : List (Int × Int)) (rs : List Int) (p : Int) : Bool := brB d xs && vB minB reqLe 8 rs && inB p 0 120
theorem reqB_br {d : Int} {xs : List (Int × Int)} {rs : List Int} {p : Int} (h : reqB d xs rs p = true) : brB d xs = true := by
 simp only [reqB, Bool.and_eq_true] at h
 exact h.1.1
theorem reqB_v {d : Int} {xs : List (Int × Int)} {rs : List Int} {p : Int} (h : reqB d xs rs p = true) : vB minB reqLe 8 rs = true := by
 simp only [reqB, Bool.and_eq_true] at h
 exact h.1.2
theorem reqB_p {d : Int} {xs : List (Int × Int)} {rs : List Int} {p : Int} (h : reqB d xs rs p = true) : 0 ≤ p ∧ p ≤ 120 := by
 simp only [reqB, Bool.and_eq_true] at h
 exact inB_bd h.2
def gapLe (d : Int) (y x : Int) : Bool := decide (y + d ≤ x)
/-- the beginnings of openings, each allowed, one after another -/
def opsB (d : Int) (xs : List (Int × Int)) (pl : List Int) : Bool := (List.range pl.length).all (vAt (mayB d xs) (gapLe d) pl)
theorem opsB_bad {d : Int} {xs : List (Int × Int)} {pl : List Int} {k : Nat} (h : k < pl.length) (hv : vAt (mayB d xs) (gapLe d) pl k = false) : opsB d xs pl = false := by
 unfold opsB
 rw [List.all_eq_false]
 exact ⟨k, List.mem_range.2 h, by simp [hv]⟩
theorem opsB_all {d : Int} {xs : List (Int × Int)} {pl : List Int} (h : ∀ j, j < pl.length → vAt (mayB d xs) (gapLe d) pl j = true) : opsB d xs pl = true := by
 unfold opsB
 rw [List.all_eq_true]
 exact fun j hj => h j (List.mem_range.1 hj)
theorem opsB_at {d : Int} {xs : List (Int × Int)} {pl : List Int} (h : opsB d xs pl = true) (k : Nat) (hk : k < pl.length) : mayB d xs pl[k] = true := by
 unfold opsB at h
 rw [List.all_eq_true] at h
 have := h k (List.mem_range.2 hk)
 cases k with
 | zero => rwa [vAt_zero hk] at this
 | succ k => rw [vAt_succ k hk, Bool.and_eq_true] at this; exact this.1
theorem opsB_gap {d : Int} {xs : List (Int × Int)} {pl : List Int} (h : opsB d xs pl = true) (k : Nat) (hk : k + 1 < pl.length) : pl[k] + d ≤ pl[k + 1] := by
 unfold opsB at h
 rw [List.all_eq_true] at h
 have := h (k + 1) (List.mem_range.2 hk)
 rw [vAt_succ k hk, Bool.and_eq_true] at this
 simpa [gapLe] using this.2
theorem opsB_mono {d : Int} {xs : List (Int × Int)} {pl : List Int} (hd : 1 ≤ d) (h : opsB d xs pl = true) : ∀ (j k : Nat) (hj : j < k) (hk : k < pl.length), pl[j] < pl[k]
 | j, k + 1, hj, hk => by
  have h1 := opsB_gap h k hk
  by_cases he : j = k
  ·subst he; omega
  ·have := opsB_mono hd h j k (by omega) (by omega)
   omega
theorem opsB_ge {d : Int} {xs : List (Int × Int)} {pl : List Int} (hd : 1 ≤ d) (h : opsB d xs pl = true) : ∀ (k : Nat) (hk : k < pl.length), (k : Int) ≤ pl[k]
 | 0, hk => by have := mayB_bd (opsB_at h 0 hk); omega
 | k + 1, hk => by
  have h1 := opsB_gap h k hk
  have h2 := opsB_ge hd h k (by omega)
  omega
theorem opsB_len {d : Int} {xs : List (Int × Int)} {pl : List Int} (hd : 1 ≤ d) (h : opsB d xs pl = true) : pl.length ≤ 10000 := by
 by_cases h0 : pl.length = 0
 ·omega
 ·have h1 := opsB_ge hd h (pl.length - 1) (by omega)
  have h2 := mayB_bd (opsB_at h (pl.length - 1) (by omega))
  omega
/-- the first opening of a plan that is not before a minute -/
def firstO (pl : List Int) (m : Int) : Int := match pl.find? (fun t => decide (m ≤ t)) with | some t => t | none => -1
theorem firstO_hit {pl : List Int} {m : Int} {k : Nat} (hk : k < pl.length) (hl : ∀ j (hj : j < k), pl[j]'(by omega) < m) (hp : m ≤ pl[k]) : firstO pl m = pl[k] := by
 have : pl.find? (fun t => decide (m ≤ t)) = some pl[k] := by
  rw [List.find?_eq_some_iff_getElem]
  refine ⟨by simpa using hp, k, hk, rfl, fun j hj => ?_⟩
  have := hl j hj
  simp
  omega
 unfold firstO
 rw [this]
theorem firstO_none {pl : List Int} {m : Int} (hl : ∀ j (hj : j < pl.length), pl[j] < m) : firstO pl m = -1 := by
 have : pl.find? (fun t => decide (m ≤ t)) = none := by
  rw [List.find?_eq_none]
  intro x hx
  obtain ⟨j, hj, rfl⟩ := List.getElem_of_mem hx
  have := hl j hj
  simp
  omega
 unfold firstO
 rw [this]
/-- how long a vessel waits, or -1 -/
def waitS (m own t : Int) : Int := if m ≤ t ∧ (own < 0 ∨ t - m < own) then t - m else own
def waitO (pl : List Int) (m : Int) : Int := pl.foldl (waitS m) (-1)
theorem waitO_snoc (pl : List Int) (m : Int) (k : Nat) (h : k < pl.length) : waitO (pl.take (k + 1)) m = waitS m (waitO (pl.take k) m) pl[k] := by
 unfold waitO
 rw [List.take_succ_eq_append_getElem h, List.foldl_append]; rfl
def waitF (pl : List Int) (m : Int) : Int := if firstO pl m < 0 then -1 else firstO pl m - m
theorem firstO_take (pl : List Int) (m : Int) (k : Nat) (h : k < pl.length) : (pl.take (k + 1)).find? (fun t => decide (m ≤ t)) = ((pl.take k).find? (fun t => decide (m ≤ t))).or (if m ≤ pl[k] then some pl[k] else none) := by
 rw [List.take_succ_eq_append_getElem h, List.find?_append]
 congr 1
 by_cases hm : m ≤ pl[k]
 ·simp [hm]
 ·simp [hm]
theorem waitO_eq {d : Int} {xs : List (Int × Int)} {pl : List Int} (hd : 1 ≤ d) (h : opsB d xs pl = true) {m : Int} (hm : 0 ≤ m) : waitO pl m = waitF pl m := by
 have key : ∀ k, k ≤ pl.length → waitO (pl.take k) m = (match (pl.take k).find? (fun t => decide (m ≤ t)) with | some t => t - m | none => -1) := by
  intro k
  induction k with
  | zero => intro _; simp [waitO]
  | succ k ih =>
   intro hk
   have hlt : k < pl.length := by omega
   have ih := ih (by omega)
   rw [waitO_snoc pl m k hlt, firstO_take pl m k hlt, ih]
   cases hf : (pl.take k).find? (fun t => decide (m ≤ t)) with
   | none =>
    by_cases hc : m ≤ pl[k]
    ·simp [waitS, hc]
    ·simp [waitS, hc]
   | some t =>
    have h1 := List.mem_of_find?_eq_some hf
    have h2 := List.find?_some hf
    simp only [decide_eq_true_eq] at h2
    obtain ⟨j, hj, rfl⟩ := List.mem_take_iff_getElem.1 h1
    have := opsB_mono hd h j k (by omega) hlt
    simp only [Option.some_or, waitS]
    rw [if_neg (by omega)]
 have := key pl.length (Nat.le_refl _)
 rw [List.take_length] at this
 rw [this]
 unfold waitF firstO
 cases hf : pl.find? (fun t => decide (m ≤ t)) with
 | none => simp
 | some t =>
  have h2 := List.find?_some hf
  simp only [decide_eq_true_eq] at h2
  simp only
  rw [if_neg (by omega)]
theorem firstO_bd {d : Int} {xs : List (Int × Int)} {pl : List Int} (h : opsB d xs pl = true) (m : Int) : -1 ≤ firstO pl m ∧ firstO pl m ≤ 10000 - d ∨ firstO pl m = -1 := by
 unfold firstO
 cases hf : pl.find? (fun t => decide (m ≤ t)) with
 | none => right; rfl
 | some t =>
  left
  have h1 := List.mem_of_find?_eq_some hf
  obtain ⟨j, hj, rfl⟩ := List.getElem_of_mem h1
  have := mayB_bd (opsB_at h j hj)
  simp only
  omega
/-- every request is served in time -/
def servB (rs pl : List Int) (p : Int) : Bool := rs.all fun m => decide (0 ≤ waitF pl m ∧ waitF pl m ≤ p)
def planB (d : Int) (xs : List (Int × Int)) (rs : List Int) (p : Int) (pl : List Int) : Bool := reqB d xs rs p && opsB d xs pl && servB rs pl p
theorem planB_req {d : Int} {xs : List (Int × Int)} {rs : List Int} {p : Int} {pl : List Int} (h : planB d xs rs p pl = true) : reqB d xs rs p = true := by
 simp only [planB, Bool.and_eq_true] at h
 exact h.1.1
theorem planB_ops {d : Int} {xs : List (Int × Int)} {rs : List Int} {p : Int} {pl : List Int} (h : planB d xs rs p pl = true) : opsB d xs pl = true := by
 simp only [planB, Bool.and_eq_true] at h
 exact h.1.2
theorem planB_serv {d : Int} {xs : List (Int × Int)} {rs : List Int} {p : Int} {pl : List Int} (h : planB d xs rs p pl = true) : servB rs pl p = true := by
 simp only [planB, Bool.and_eq_true] at h
 exact h.2
def waitL (rs pl : List Int) : List Int := rs.map fun m => waitF pl m
def sumL (ys : List Int) : Int := ys.foldl (fun s y => s + y) 0
theorem sumL_snoc (ys : List Int) (k : Nat) (h : k < ys.length) : sumL (ys.take (k + 1)) = sumL (ys.take k) + ys[k] := by
 unfold sumL
 rw [List.take_succ_eq_append_getElem h, List.foldl_append]; rfl
def sumV (d : Int) (xs : List (Int × Int)) (rs : List Int) (p : Int) (pl : List Int) : Int × Bool := if planB d xs rs p pl = true then (sumL (waitL rs pl), true) else (0, false)
def openV (d : Int) (xs : List (Int × Int)) (rs : List Int) (p : Int) (pl : List Int) : Int × Bool := if planB d xs rs p pl = true then ((pl.length : Int) * d, true) else (0, false)
/-- the openings chosen so far, and the minute from which the next may begin -/
def fewN (d : Int) (xs : List (Int × Int)) (p : Int) (out : List Int) (r m : Int) : Option (List Int × Int) :=
 if 0 ≤ firstO out m then some (out, r) else (match lastF d xs (max m r) (min (m + p) 9999) with | some u => some (out ++ [u], u + d) | none => none)
def fewS (d : Int) (xs : List (Int × Int)) (p : Int) (a : Option (List Int × Int)) (m : Int) : Option (List Int × Int) := match a with | some (out, r) => fewN d xs p out r m | none => none
theorem fewS_none (d : Int) (xs : List (Int × Int)) (p : Int) : ∀ rs : List Int, rs.foldl (fewS d xs p) none = none
 | [] => rfl
 | r :: rs => by rw [List.foldl_cons]; exact fewS_none d xs p rs
def fewTo (d : Int) (xs : List (Int × Int)) (p : Int) (rs : List Int) (k : Nat) : Option (List Int × Int) := (rs.take k).foldl (fewS d xs p) (some ([], 0))
theorem fewTo_succ (d : Int) (xs : List (Int × Int)) (p : Int) (rs : List Int) (k : Nat) (h : k < rs.length) : fewTo d xs p rs (k + 1) = fewS d xs p (fewTo d xs p rs k) rs[k] := by
 unfold fewTo
 rw [List.take_succ_eq_append_getElem h, List.foldl_append]; rfl
theorem fewTo_end (d : Int) (xs : List (Int × Int)) (p : Int) (rs : List Int) (k : Nat) (_hk : k ≤ rs.length) (h : fewTo d xs p rs k = none) : fewTo d xs p rs rs.length = none := by
 have e : rs = rs.take k ++ rs.drop k := (List.take_append_drop k rs).symm
 unfold fewTo at *
 rw [List.take_length]
 rw [e, List.foldl_append, h]
 exact fewS_none _ _ _ _
def fewV (d : Int) (xs : List (Int × Int)) (rs : List Int) (p : Int) : List Int × Bool :=
 if reqB d xs rs p = true then (match fewTo d xs p rs rs.length with | some a => (a.1, true) | none => ([], false)) else ([], false)
/-- what holds of the openings chosen so far -/
def fewOk (d : Int) (out : List Int) (r : Int) : Prop := (∀ i (hi : i < out.length), 0 ≤ out[i] ∧ out[i] + d ≤ r) ∧ (∀ i (hi : i + 1 < out.length), out[i] ≤ out[i + 1]) ∧ 0 ≤ r ∧ r ≤ 10000
theorem fewOk_nil (d : Int) : fewOk d [] 0 := ⟨fun i hi => absurd hi (Nat.not_lt_zero i), fun i hi => absurd hi (Nat.not_lt_zero _), by omega, by omega⟩
theorem fewOk_snoc {d : Int} {out : List Int} {r u : Int} (h : fewOk d out r) (hd : 1 ≤ d) (h1 : r ≤ u) (h2 : u + d ≤ 10000) : fewOk d (out ++ [u]) (u + d) := by
 obtain ⟨ha, hb, hc, hd'⟩ := h
 refine ⟨fun i hi => ?_, fun i hi => ?_, by omega, by omega⟩
 ·rw [List.getElem_append]
  split
  ·rename_i hl
   have := ha i hl
   omega
  ·simp; omega
 ·simp at hi
  rw [List.getElem_append_left (by omega)]
  rw [List.getElem_append]
  split
  ·rename_i hl
   exact hb i hl
  ·have := ha i (by omega)
   simp
   omega
theorem fewOk_le {d : Int} {out : List Int} {r : Int} (h : fewOk d out r) : ∀ (n j : Nat) (hj : j + n < out.length), out[j] ≤ out[j + n]
 | 0, j, hj => Int.le_refl _
 | n + 1, j, hj => by
  have h1 := fewOk_le h n j (by omega)
  have h2 := h.2.1 (j + n) (by omega)
  exact Int.le_trans h1 h2
theorem fewOk_last {d : Int} {out : List Int} {r m : Int} (h : fewOk d out r) (hm : 0 ≤ m) (n : Nat) (hn : out.length = n + 1) : 0 ≤ firstO out m ↔ m ≤ out[n] := by
 unfold firstO
 constructor
 ·intro hf
  cases hx : out.find? (fun t => decide (m ≤ t)) with
  | none => rw [hx] at hf; simp at hf
  | some t =>
   have h1 := List.mem_of_find?_eq_some hx
   have h2 := List.find?_some hx
   simp only [decide_eq_true_eq] at h2
   obtain ⟨j, hj, rfl⟩ := List.getElem_of_mem h1
   have := fewOk_le h (n - j) j (by omega)
   simp only [show j + (n - j) = n by omega] at this
   omega
 ·intro hl
  cases hx : out.find? (fun t => decide (m ≤ t)) with
  | none =>
   rw [List.find?_eq_none] at hx
   have := hx out[n] (List.getElem_mem _)
   simp at this
   omega
  | some t =>
   have h2 := List.find?_some hx
   simp only [decide_eq_true_eq] at h2
   simp only
   omega
theorem firstO_nil (m : Int) : firstO [] m = -1 := rfl
theorem fewTo_len {d : Int} {xs : List (Int × Int)} {p : Int} {rs : List Int} : ∀ (k : Nat) (out : List Int) (r : Int), k ≤ rs.length → fewTo d xs p rs k = some (out, r) → out.length ≤ k
 | 0, out, r, _, h => by
  simp [fewTo] at h
  simp [h.1]
 | k + 1, out, r, hk, h => by
  rw [fewTo_succ _ _ _ _ k (by omega)] at h
  cases hp : fewTo d xs p rs k with
  | none => rw [hp] at h; cases h
  | some a =>
   obtain ⟨o', r'⟩ := a
   have ih := fewTo_len k o' r' (by omega) hp
   rw [hp] at h
   simp only [fewS, fewN] at h
   split at h
   ·simp only [Option.some.injEq, Prod.mk.injEq] at h
    rw [← h.1]; omega
   ·split at h
    ·simp only [Option.some.injEq, Prod.mk.injEq] at h
     rw [← h.1, List.length_append]; simp; omega
    ·cases h
theorem fewV_len (d : Int) (xs : List (Int × Int)) (rs : List Int) (p : Int) : (fewV d xs rs p).1.length ≤ 8 := by
 unfold fewV
 by_cases h : reqB d xs rs p = true
 ·rw [if_pos h]
  have h1 := vB_len (reqB_v h)
  cases hf : fewTo d xs p rs rs.length with
  | none => simp
  | some a =>
   have := fewTo_len rs.length a.1 a.2 (Nat.le_refl _) hf
   simp only
   omega
 ·rw [if_neg h]; simp

theorem info_In : (Try.prog.info? 3).map (fun i => (i.zero, i.size, i.bytes)) = some (some (.int .i64 0), 1, 8) := by kernel_rfl

theorem info_Iv : (Try.prog.info? 50).map (fun i => (i.zero, i.size, i.bytes)) = some (some (.agg #[.int .i64 0, .int .i64 0]), 2, 16) := by kernel_rfl

theorem int_eq {a b : Int} (h : a = b) : Value.int .i64 a = .int .i64 b := by rw [h]

end Go.Proofs.Yteciijnpfapmhaa
namespace Go.Proofs.Yteciijnpfapmhaa
set_option linter.unusedSimpArgs false
set_option linter.unusedVariables false
open Go.RowKit

def cB (x : Int) : List Value := [.int .u8 x]
/-- the cursor at block b: the code, how far it has come (m at most), the seed -/
def Cur (w : World) (b : Nat) (A : Option Addr) (n cap : Nat) (m : Int) : Prop :=
 b < w.heap.size ∧ w.cell? ⟨b, 0, none⟩ = some (.slice A n cap) ∧ (∃ a : Int, 0 ≤ a ∧ a ≤ m ∧ w.cell? ⟨b, 1, none⟩ = some (.int .i64 a)) ∧ (∃ s : Int, w.cell? ⟨b, 2, none⟩ = some (.int .u64 s)) ∧ ∀ o, w.frozen? ⟨b, o, none⟩ = false
def Bytes (cs : List Int) : Prop := ∀ k (hk : k < cs.length), 0 ≤ cs[k] ∧ cs[k] ≤ 255
theorem low8 (E : Int) (h0 : 0 ≤ E) (h1 : E ≤ 18446744073709551615) : 0 ≤ bits BinOp.and IntKind.u64 E 255 ∧ bits BinOp.and IntKind.u64 E 255 ≤ 255 := by
 have h := bits_and_u64_nat E.toNat 255 (by omega) (by omega)
 rw [Int.toNat_of_nonneg h0] at h
 have h3 : bits BinOp.and IntKind.u64 E 255 = ((E.toNat &&& 255 : Nat) : Int) := h
 have h2 : E.toNat &&& 255 ≤ 255 := Nat.and_le_right
 omega
theorem wrap_u64 (x : Int) : 0 ≤ IntKind.u64.wrap x ∧ IntKind.u64.wrap x ≤ 18446744073709551615 := by
 have : IntKind.u64.wrap x = x % 18446744073709551616 := rfl
 omega
theorem Cur.after {w w' : World} {b n cap : Nat} {A : Option Addr} {m a : Int} (hcu : Cur w b A n cap m) (ha : 0 ≤ a ∧ a ≤ m + 1) (h0 : w'.cell? ⟨b, 0, none⟩ = w.cell? ⟨b, 0, none⟩) (h1 : w'.cell? ⟨b, 1, none⟩ = some (.int .i64 a)) (h2 : ∃ s, w'.cell? ⟨b, 2, none⟩ = some (.int .u64 s))
  (hz : ∀ o, w'.frozen? ⟨b, o, none⟩ = w.frozen? ⟨b, o, none⟩) (hs : w.heap.size ≤ w'.heap.size) : Cur w' b A n cap (m + 1) := by
 obtain ⟨hb, q0, _, _, qz⟩ := hcu
 exact ⟨by omega, by rw [h0]; exact q0, ⟨a, ha.1, ha.2, h1⟩, h2, fun o => by rw [hz]; exact qz o⟩
theorem grown_drew {a w : World} {row : Option Nat} (h : a.grownBy w row) : a.grownBy w.drew row := ⟨h.os, h.tape, h.output, h.size, h.block⟩
set_option maxRecDepth 100000 in
set_option maxHeartbeats 2000000 in
theorem c_next (b : Nat) (A : Option Addr) (cs : List Int) (cap : Nat) (m : Int) (w : World) (hcu : Cur w b A cs.length cap m) (hr : RdsN b cB 1 w A cs) (hby : Bytes cs) (hm : 0 ≤ m ∧ m ≤ 1000000000) (hl : cs.length ≤ 1000000000) :
  Calls Try.prog 91 #[.pointer (some ⟨b, 0, none⟩)] w fun e w' => ∃ x : Int, e = .returned (.int .i64 x) ∧ 0 ≤ x ∧ x ≤ 255 ∧ Cur w' b A cs.length cap (m + 1) ∧ w.grownBy w' (some b) := by
 have hcu0 := hid hcu
 obtain ⟨hb, q0, ⟨a, ha0, ha1, q1⟩, ⟨s, q2⟩, qz⟩ := hcu
 have z1 := qz 1
 have z2 := qz 2
 by_cases hlt : a < cs.length
 ·obtain ⟨k, rfl⟩ : ∃ k : Nat, a = k := ⟨a.toNat, by omega⟩
  have hk : k < cs.length := by omega
  obtain ⟨bx, ox, rfl, hbx, hcx⟩ := hr k cs[k] (List.getElem?_eq_getElem hk)
  have hx0 := hcx 0 _ rfl
  simp only [Nat.add_zero, Nat.mul_one] at hx0
  have hx := hby k hk
  clear hcx hr hby
  generalize cs[k] = x at *
  generalize hcl : cs.length = n at *
  go_enter Try.func91, Try.ntmps91
  go_wp2_with (fail)
  go_region
  all_goals go_wp2_with (fail)
  all_goals go_region
  all_goals go_wp2_with (fail)
  all_goals go_region
  all_goals go_wp2_with (fail)
  all_goals go_ret
  all_goals
   refine ⟨x, rfl, hx.1, hx.2, ?_, ?_⟩
   ·refine Cur.after hcu0.out (a := k + 1) (by omega) ?_ ?_ ?_ (fun o => ?_) ?_
    ·simp [go_sem]
    ·simp [go_sem, q1]
    ·refine ⟨?_, ?_⟩
     rotate_left
     ·simp [go_sem, q2]
      rfl
    ·simp [go_sem]
    ·simp
   ·repeat' first | exact World.grownBy.refl _ _ | refine grown_drew ?_ | refine grown_set ?_
 ·have hx0 : (0 : Int) ≤ 0 := by omega
  clear hr hby
  generalize hcl : cs.length = n at *
  go_enter Try.func91, Try.ntmps91
  go_wp2_with (fail)
  go_region
  all_goals go_wp2_with (fail)
  all_goals go_region
  all_goals go_wp2_with (fail)
  have hw := wrap_u64 (IntKind.u64.wrap (IntKind.u64.wrap (s * 6364136223846793005)) + 924924)
  generalize hg : IntKind.u64.wrap (IntKind.u64.wrap (IntKind.u64.wrap (s * 6364136223846793005)) + 924924) = u at *
  have h8 := low8 (u / 1099511627776) (by omega) (by omega)
  generalize bits BinOp.and IntKind.u64 (u / 1099511627776) 255 = z at *
  have e : wrap64 z = z := by unfold wrap64; omega
  all_goals go_ret
  all_goals
   refine ⟨z, by (first | rfl | simp [e]),  h8.1, h8.2, ?_, ?_⟩
   ·refine Cur.after hcu0.out (a := a + 1) (by omega) ?_ ?_ ?_ (fun o => ?_) ?_
    ·simp [go_sem]
    ·simp [go_sem, q1]
    ·refine ⟨?_, ?_⟩
     rotate_left
     ·simp [go_sem, q2]
      rfl
    ·simp [go_sem]
    ·simp
   ·repeat' first | exact World.grownBy.refl _ _ | refine grown_drew ?_ | refine grown_set ?_

end Go.Proofs.Yteciijnpfapmhaa
namespace Go.Proofs.Yteciijnpfapmhaa
set_option linter.unusedSimpArgs false
set_option linter.unusedVariables false
open Go.RowKit

set_option maxHeartbeats 400000 in
theorem c_impl_IsInterval (a b : Int) (w : World)  :
  Calls Try.prog 52 #[.agg #[.int .i64 (a), .int .i64 (b)]] w fun e w' => e = .returned (.bool (goodI a b)) ∧ Below w.heap.size w w' := by
 go_enter Try.func52, Try.ntmps52
 go_wp2
 all_goals go_ret
 all_goals
  refine ⟨ret_bool ?_, ?_⟩
  ·first | rfl | omega | (simp [goodI]; done) | (simp [goodI]; omega) | (simp [goodI]; (repeat' split) <;> (first | omega | (simp; done) | (simp; omega))) | (simp_all [goodI]; done) | (simp_all [goodI]; omega)
  ·(repeat' (first | exact Below.refl _ _ | assumption | refine Below.setCell ?_ ?_ _ | refine Below.drew ?_ | refine Below.alloc ?_ ?_ _ | refine Below.trans ?_ (Below.mono (by assumption) ?_) | (simp; done) | (simp; omega) | omega))

set_option maxHeartbeats 400000 in
theorem c_impl_inside (a b c : Int) (w : World)  :
  Calls Try.prog 53 #[.int .i64 (a), .int .i64 (b), .int .i64 (c)] w fun e w' => e = .returned (.bool (inB a b c)) ∧ Below w.heap.size w w' := by
 go_enter Try.func53, Try.ntmps53
 go_wp2
 all_goals go_ret
 all_goals
  refine ⟨ret_bool ?_, ?_⟩
  ·first | rfl | omega | (simp [inB]; done) | (simp [inB]; omega) | (simp [inB]; (repeat' split) <;> (first | omega | (simp; done) | (simp; omega))) | (simp_all [inB]; done) | (simp_all [inB]; omega)
  ·(repeat' (first | exact Below.refl _ _ | assumption | refine Below.setCell ?_ ?_ _ | refine Below.drew ?_ | refine Below.alloc ?_ ?_ _ | refine Below.trans ?_ (Below.mono (by assumption) ?_) | (simp; done) | (simp; omega) | omega))

set_option maxHeartbeats 400000 in
theorem c_impl_isMinute (a : Int) (w : World)  :
  Calls Try.prog 57 #[.int .i64 (a)] w fun e w' => e = .returned (.bool (minB a)) ∧ Below w.heap.size w w' := by
 go_enter Try.func57, Try.ntmps57
 go_wp2_with (first | (go_at_call 53; refine (c_impl_inside _ _ _ _ ).mono ?_; rintro e w' ⟨rfl, hb⟩; have hc := cellOf hb; have hf := frozOf hb; have hz := sizeOf hb; try simp at hz))
 all_goals go_ret
 all_goals
  refine ⟨ret_bool ?_, ?_⟩
  ·first | rfl | omega | (simp [minB, inB]; done) | (simp [minB, inB]; omega) | (simp [minB, inB]; (repeat' split) <;> (first | omega | (simp; done) | (simp; omega))) | (simp_all [minB, inB]; done) | (simp_all [minB, inB]; omega)
  ·(repeat' (first | exact Below.refl _ _ | assumption | refine Below.setCell ?_ ?_ _ | refine Below.drew ?_ | refine Below.alloc ?_ ?_ _ | refine Below.trans ?_ (Below.mono (by assumption) ?_) | (simp; done) | (simp; omega) | omega))

set_option maxHeartbeats 400000 in
theorem c_spec_l13Good (a b : Int) (w : World)  :
  Calls Try.prog 82 #[.agg #[.int .i64 (a), .int .i64 (b)]] w fun e w' => e = .returned (.bool (goodI a b)) ∧ Below w.heap.size w w' := by
 go_enter Try.func82, Try.ntmps82
 go_wp2
 all_goals go_ret
 all_goals
  refine ⟨ret_bool ?_, ?_⟩
  ·first | rfl | omega | (simp [goodI]; done) | (simp [goodI]; omega) | (simp [goodI]; (repeat' split) <;> (first | omega | (simp; done) | (simp; omega))) | (simp_all [goodI]; done) | (simp_all [goodI]; omega)
  ·(repeat' (first | exact Below.refl _ _ | assumption | refine Below.setCell ?_ ?_ _ | refine Below.drew ?_ | refine Below.alloc ?_ ?_ _ | refine Below.trans ?_ (Below.mono (by assumption) ?_) | (simp; done) | (simp; omega) | omega))

set_option maxHeartbeats 400000 in
theorem c_spec_l1In (a b c : Int) (w : World)  :
  Calls Try.prog 81 #[.int .i64 (a), .int .i64 (b), .int .i64 (c)] w fun e w' => e = .returned (.bool (inB a b c)) ∧ Below w.heap.size w w' := by
 go_enter Try.func81, Try.ntmps81
 go_wp2
 all_goals go_ret
 all_goals
  refine ⟨ret_bool ?_, ?_⟩
  ·first | rfl | omega | (simp [inB]; done) | (simp [inB]; omega) | (simp [inB]; (repeat' split) <;> (first | omega | (simp; done) | (simp; omega))) | (simp_all [inB]; done) | (simp_all [inB]; omega)
  ·(repeat' (first | exact Below.refl _ _ | assumption | refine Below.setCell ?_ ?_ _ | refine Below.drew ?_ | refine Below.alloc ?_ ?_ _ | refine Below.trans ?_ (Below.mono (by assumption) ?_) | (simp; done) | (simp; omega) | omega))

set_option maxHeartbeats 400000 in
theorem c_spec_l8Minute (a : Int) (w : World)  :
  Calls Try.prog 55 #[.int .i64 (a)] w fun e w' => e = .returned (.bool (minB a)) ∧ Below w.heap.size w w' := by
 go_enter Try.func55, Try.ntmps55
 go_wp2_with (first | (go_at_call 81; refine (c_spec_l1In _ _ _ _ ).mono ?_; rintro e w' ⟨rfl, hb⟩; have hc := cellOf hb; have hf := frozOf hb; have hz := sizeOf hb; try simp at hz))
 all_goals go_ret
 all_goals
  refine ⟨ret_bool ?_, ?_⟩
  ·first | rfl | omega | (simp [minB, inB]; done) | (simp [minB, inB]; omega) | (simp [minB, inB]; (repeat' split) <;> (first | omega | (simp; done) | (simp; omega))) | (simp_all [minB, inB]; done) | (simp_all [minB, inB]; omega)
  ·(repeat' (first | exact Below.refl _ _ | assumption | refine Below.setCell ?_ ?_ _ | refine Below.drew ?_ | refine Below.alloc ?_ ?_ _ | refine Below.trans ?_ (Below.mono (by assumption) ?_) | (simp; done) | (simp; omega) | omega))

set_option maxHeartbeats 400000 in
theorem c_spec_l1Most (a b : Int) (w : World)  :
  Calls Try.prog 72 #[.int .i64 (a), .int .i64 (b)] w fun e w' => e = .returned (.int .i64 (max a b)) ∧ Below w.heap.size w w' := by
 go_enter Try.func72, Try.ntmps72
 go_wp2
 all_goals go_ret
 all_goals
  refine ⟨ret_int ?_, ?_⟩
  ·first | rfl | omega | (simp []; done) | (simp []; omega) | (simp []; (repeat' split) <;> (first | omega | (simp; done) | (simp; omega))) | (simp_all []; done) | (simp_all []; omega)
  ·(repeat' (first | exact Below.refl _ _ | assumption | refine Below.setCell ?_ ?_ _ | refine Below.drew ?_ | refine Below.alloc ?_ ?_ _ | refine Below.trans ?_ (Below.mono (by assumption) ?_) | (simp; done) | (simp; omega) | omega))

end Go.Proofs.Yteciijnpfapmhaa
namespace Go.Proofs.Yteciijnpfapmhaa
set_option linter.unusedSimpArgs false
set_option linter.unusedVariables false
open Go.RowKit

def sortB (rs : List Int) : Bool := (List.range rs.length).all (vAt (fun _ => true) reqLe rs)
theorem sortB_bad {rs : List Int} {k : Nat} (h : k < rs.length) (hv : vAt (fun _ => true) reqLe rs k = false) : sortB rs = false := by
 unfold sortB
 rw [List.all_eq_false]
 exact ⟨k, List.mem_range.2 h, by simp [hv]⟩
theorem sortB_all {rs : List Int} (h : ∀ j, j < rs.length → vAt (fun _ => true) reqLe rs j = true) : sortB rs = true := by
 unfold sortB
 rw [List.all_eq_true]
 exact fun j hj => h j (List.mem_range.1 hj)
def noMin (x : Int) : Bool := !minB x
theorem vAt_split {α : Type} (good : α → Bool) (lt : α → α → Bool) (xs : List α) (k : Nat) (hk : k < xs.length) : vAt good lt xs k = (good xs[k] && vAt (fun _ => true) lt xs k) := by
 cases k with
 | zero => rw [vAt_zero hk, vAt_zero hk]; simp
 | succ k => rw [vAt_succ k hk, vAt_succ k hk]; simp
theorem req_split (rs : List Int) : vB minB reqLe 8 rs = (sortB rs && !(rs.any noMin) && decide (rs.length ≤ 8)) := by
 unfold vB sortB
 congr 1
 rw [Bool.eq_iff_iff]
 simp only [List.all_eq_true, List.mem_range, Bool.and_eq_true, Bool.not_eq_true', List.any_eq_false]
 constructor
 ·intro h
  refine ⟨fun k hk => ?_, fun x hx => ?_⟩
  ·have := h k hk
   rw [vAt_split _ _ _ _ hk, Bool.and_eq_true] at this
   exact this.2
  ·obtain ⟨k, hk, rfl⟩ := List.getElem_of_mem hx
   have := h k hk
   rw [vAt_split _ _ _ _ hk, Bool.and_eq_true] at this
   simp [noMin, this.1]
 ·intro h k hk
  rw [vAt_split _ _ _ _ hk, Bool.and_eq_true]
  refine ⟨?_, h.1 k hk⟩
  have := h.2 rs[k] (List.getElem_mem hk)
  simpa [noMin] using this
theorem reqB_no1 {d : Int} {xs : List (Int × Int)} {rs : List Int} {p : Int} (h : brB d xs = false) : reqB d xs rs p = false := by simp [reqB, h]
theorem reqB_no2 {d : Int} {xs : List (Int × Int)} {rs : List Int} {p : Int} (h : ¬ rs.length ≤ 8) : reqB d xs rs p = false := by simp [reqB, vB_long (good := minB) (lt := reqLe) (n := 8) (xs := rs) (by omega)]
theorem reqB_no3 {d : Int} {xs : List (Int × Int)} {rs : List Int} {p : Int} (h : inB p 0 120 = false) : reqB d xs rs p = false := by simp [reqB, h]
theorem reqB_no4 {d : Int} {xs : List (Int × Int)} {rs : List Int} {p : Int} (h : vB minB reqLe 8 rs = false) : reqB d xs rs p = false := by simp [reqB, h]
theorem reqB_yes {d : Int} {xs : List (Int × Int)} {rs : List Int} {p : Int} (h1 : brB d xs = true) (h2 : vB minB reqLe 8 rs = true) (h3 : inB p 0 120 = true) : reqB d xs rs p = true := by simp [reqB, h1, h2, h3]
def minP (x : Int) : Prop := 0 ≤ x ∧ x ≤ 9999
theorem reqB_P {d : Int} {xs : List (Int × Int)} {rs : List Int} {p : Int} (h : reqB d xs rs p = true) : ∀ k (hk : k < rs.length), minP rs[k] := fun k hk => minB_bd (vB_at (reqB_v h) k hk)
theorem opsB_P {d : Int} {xs : List (Int × Int)} {pl : List Int} (hd : 1 ≤ d) (h : opsB d xs pl = true) : ∀ k (hk : k < pl.length), minP pl[k] := fun k hk => by
 have := mayB_bd (opsB_at h k hk)
 unfold minP
 omega
theorem waitS_bd {m own t : Int} (hm : minP m) (ht : minP t) (ho : -1 ≤ own ∧ own ≤ 9999) : -1 ≤ waitS m own t ∧ waitS m own t ≤ 9999 := by
 unfold waitS minP at *
 split <;> omega
theorem waitO_bd {pl : List Int} {m : Int} (hm : minP m) (hp : ∀ k (hk : k < pl.length), minP pl[k]) : ∀ k, k ≤ pl.length → -1 ≤ waitO (pl.take k) m ∧ waitO (pl.take k) m ≤ 9999
 | 0, _ => by simp [waitO]
 | k + 1, hk => by
  rw [waitO_snoc pl m k (by omega)]
  exact waitS_bd hm (hp k (by omega)) (waitO_bd hm hp k (by omega))
def waitsL (rs pl : List Int) : List Int := rs.map fun m => waitO pl m
theorem waitsL_snoc (rs pl : List Int) (k : Nat) (h : k < rs.length) : waitsL (rs.take (k + 1)) pl = waitsL (rs.take k) pl ++ [waitO pl rs[k]] := by
 unfold waitsL
 rw [List.take_succ_eq_append_getElem h, List.map_append]; rfl
theorem waitsL_eq {d : Int} {xs : List (Int × Int)} {rs pl : List Int} (hd : 1 ≤ d) (ho : opsB d xs pl = true) (hr : ∀ k (hk : k < rs.length), minP rs[k]) : waitsL rs pl = waitL rs pl := by
 unfold waitsL waitL
 refine List.map_congr_left fun m hm => ?_
 obtain ⟨k, hk, rfl⟩ := List.getElem_of_mem hm
 exact waitO_eq hd ho (hr k hk).1
def outP (p n : Int) : Bool := !inB n 0 p
theorem serv_any (rs pl : List Int) (p : Int) : servB rs pl p = !((waitL rs pl).any (outP p)) := by
 unfold servB waitL
 rw [List.any_map, Bool.eq_iff_iff]
 simp [outP, inB, Function.comp_def, List.all_eq_true]
theorem planB_no1 {d : Int} {xs : List (Int × Int)} {rs : List Int} {p : Int} {pl : List Int} (h : reqB d xs rs p = false) : planB d xs rs p pl = false := by simp [planB, h]
theorem planB_no2 {d : Int} {xs : List (Int × Int)} {rs : List Int} {p : Int} {pl : List Int} (h : opsB d xs pl = false) : planB d xs rs p pl = false := by simp [planB, h]
theorem planB_eq {d : Int} {xs : List (Int × Int)} {rs : List Int} {p : Int} {pl : List Int} (h1 : reqB d xs rs p = true) (h2 : opsB d xs pl = true) : planB d xs rs p pl = servB rs pl p := by simp [planB, h1, h2]
theorem mayB_min {d : Int} {xs : List (Int × Int)} {x : Int} (hd : 1 ≤ d) (h : minB x = false) : mayB d xs x = false := by
 cases hm : mayB d xs x with
 | false => rfl
 | true =>
  have := mayB_bd hm
  simp [minB] at h
  have := h this.1
  omega
theorem firstO_ge {pl : List Int} {m : Int} (h : 0 ≤ firstO pl m) : m ≤ firstO pl m := by
 unfold firstO at *
 cases hf : pl.find? (fun t => decide (m ≤ t)) with
 | none => rw [hf] at h; simp at h
 | some t =>
  have h2 := List.find?_some hf
  simpa using h2
def servP (pl : List Int) (p m : Int) : Bool := decide (0 ≤ waitF pl m ∧ waitF pl m ≤ p)
theorem servB_all (rs pl : List Int) (p : Int) : servB rs pl p = rs.all (servP pl p) := rfl
theorem servP_yes {pl : List Int} {p m : Int} (h1 : 0 ≤ firstO pl m) (h2 : firstO pl m ≤ m + p) : servP pl p m = true := by
 have := firstO_ge h1
 unfold servP waitF
 rw [if_neg (by omega)]
 simp
 omega
theorem servP_no1 {pl : List Int} {p m : Int} (h1 : firstO pl m < 0) : servP pl p m = false := by
 unfold servP waitF
 rw [if_pos h1]
 simp
theorem servP_no2 {pl : List Int} {p m : Int} (h1 : m + p < firstO pl m) : servP pl p m = false := by
 unfold servP waitF
 by_cases h : firstO pl m < 0
 ·rw [if_pos h]; simp
 ·rw [if_neg h]; simp; omega
theorem all_snoc {α : Type} (p : α → Bool) (xs : List α) (k : Nat) (h : k < xs.length) : (xs.take (k + 1)).all p = ((xs.take k).all p && p xs[k]) := by
 rw [List.take_succ_eq_append_getElem h, List.all_append]; simp
theorem all_miss {α : Type} {p : α → Bool} {xs : List α} {k : Nat} (h : k < xs.length) (hp : p xs[k] = false) : xs.all p = false := by
 rw [List.all_eq_false]; exact ⟨xs[k], List.getElem_mem h, by simp [hp]⟩
theorem waitL_snoc (rs pl : List Int) (k : Nat) (h : k < rs.length) : waitL (rs.take (k + 1)) pl = waitL (rs.take k) pl ++ [waitF pl rs[k]] := by
 unfold waitL
 rw [List.take_succ_eq_append_getElem h, List.map_append]; rfl
theorem sumL_app (ys : List Int) (y : Int) : sumL (ys ++ [y]) = sumL ys + y := by
 unfold sumL
 rw [List.foldl_append]; rfl
theorem serv_at {rs pl : List Int} {p : Int} (h : servB rs pl p = true) (k : Nat) (hk : k < rs.length) : 0 ≤ waitF pl rs[k] ∧ waitF pl rs[k] ≤ p := by
 unfold servB at h
 rw [List.all_eq_true] at h
 simpa using h rs[k] (List.getElem_mem hk)
theorem sumW_bd {rs pl : List Int} {p : Int} (h : servB rs pl p = true) (hp : 0 ≤ p ∧ p ≤ 120) : ∀ k : Nat, k ≤ rs.length → 0 ≤ sumL (waitL (rs.take k) pl) ∧ sumL (waitL (rs.take k) pl) ≤ 120 * k
 | 0, _ => by simp [waitL, sumL]
 | k + 1, hk => by
  have ih := sumW_bd h hp k (by omega)
  have := serv_at h k (by omega)
  rw [waitL_snoc rs pl k (by omega), sumL_app]
  omega
theorem wait_first {pl : List Int} {m : Int} (h : 0 ≤ waitF pl m) : waitF pl m = firstO pl m - m ∧ 0 ≤ firstO pl m := by
 unfold waitF at *
 split at h
 ·omega
 ·rename_i h2
  rw [if_neg h2]
  exact ⟨rfl, by omega⟩
theorem openB {n : Nat} {d : Int} (hn : n ≤ 10000) (hd : 1 ≤ d ∧ d ≤ 30) : 0 ≤ (n : Int) * d ∧ (n : Int) * d ≤ 300000 := by
 constructor
 ·exact Int.mul_nonneg (by omega) (by omega)
 ·have h1 := Int.mul_le_mul (a := (n : Int)) (b := d) (c := 10000) (d := 30) (by omega) hd.2 (by omega) (by omega)
  omega
theorem fewTo_next {d : Int} {xs : List (Int × Int)} {p : Int} {rs out : List Int} {r : Int} {k : Nat} (hk : k < rs.length) (h : fewTo d xs p rs k = some (out, r)) : fewTo d xs p rs (k + 1) = fewN d xs p out r rs[k] := by
 rw [fewTo_succ d xs p rs k hk, h]; rfl
theorem fewN_skip {d : Int} {xs : List (Int × Int)} {p : Int} {out : List Int} {r m : Int} (h : 0 ≤ firstO out m) : fewN d xs p out r m = some (out, r) := by unfold fewN; rw [if_pos h]
theorem fewN_none {d : Int} {xs : List (Int × Int)} {p : Int} {out : List Int} {r m : Int} (h : ¬ 0 ≤ firstO out m) (hl : lastF d xs (max m r) (min (m + p) 9999) = none) : fewN d xs p out r m = none := by unfold fewN; rw [if_neg h, hl]
theorem fewN_some {d : Int} {xs : List (Int × Int)} {p : Int} {out : List Int} {r m u : Int} (h : ¬ 0 ≤ firstO out m) (hl : lastF d xs (max m r) (min (m + p) 9999) = some u) : fewN d xs p out r m = some (out ++ [u], u + d) := by unfold fewN; rw [if_neg h, hl]
theorem fewV_no {d : Int} {xs : List (Int × Int)} {rs : List Int} {p : Int} (h : reqB d xs rs p = false) : fewV d xs rs p = ([], false) := by simp [fewV, h]
theorem fewV_stop {d : Int} {xs : List (Int × Int)} {rs : List Int} {p : Int} {k : Nat} (hk : k ≤ rs.length) (h : fewTo d xs p rs k = none) : fewV d xs rs p = ([], false) := by
 unfold fewV
 rw [fewTo_end d xs p rs k hk h]
 split <;> rfl
theorem fewV_end {d : Int} {xs : List (Int × Int)} {rs : List Int} {p : Int} {out : List Int} {r : Int} (hr : reqB d xs rs p = true) (h : fewTo d xs p rs rs.length = some (out, r)) : fewV d xs rs p = (out, true) := by
 unfold fewV
 rw [if_pos hr, h]
theorem lastF_swap {d : Int} {xs : List (Int × Int)} (hd : 1 ≤ d) (m r t : Int) : lastF d xs (max r m) t = lastF d xs (max m r) (min t 9999) := by
 rw [show max r m = max m r by omega]
 exact lastF_min hd _ _

theorem FreshA.emp {α : Type} {cf : α → List Value} {sz : Nat} {T : TypeId} {w w' : World} (hb : Below (w.heap.size + 1) (w.alloc (.cells #[] T)) w') : FreshA cf sz T w.heap.size w' (some ⟨w.heap.size, 0, none⟩) 0 ([] : List α) := by
 refine .inr ⟨w.heap.size, rfl, Nat.le_refl _, #[], ?_, by simp, Nat.le_refl _, by unfold maxLen; omega, fun i x h => by simp at h⟩
 rw [hb.block _ (by omega)]
 exact heap_alloc_new _ _
theorem FreshA.new {α : Type} {cf : α → List Value} {sz : Nat} {T : TypeId} {B : Nat} {w : World} (hB : B ≤ w.heap.size) : FreshA cf sz T B (w.alloc (.cells #[] T)) (some ⟨w.heap.size, 0, none⟩) 0 ([] : List α) :=
 .inr ⟨w.heap.size, rfl, hB, #[], heap_alloc_new _ _, by simp, Nat.le_refl _, by unfold maxLen; omega, fun i x h => by simp at h⟩

end Go.Proofs.Yteciijnpfapmhaa
namespace Go.Proofs.Yteciijnpfapmhaa
set_option linter.unusedSimpArgs false
set_option linter.unusedVariables false
open Go.RowKit

section
variable {d : Int} {xs : List (Int × Int)} {p : Int} {rs : List Int}
theorem req_le (h : reqB d xs rs p = true) : ∀ (n j : Nat) (hj : j + n < rs.length), rs[j] ≤ rs[j + n]
 | 0, j, hj => Int.le_refl _
 | n + 1, j, hj => by
  have h1 := req_le h n j (by omega)
  have h2 := vB_lt (reqB_v h) (j + n) (by omega)
  simp only [reqLe, decide_eq_true_eq] at h2
  exact Int.le_trans h1 h2
theorem firstO_lt {out : List Int} {m : Int} (hm : 0 ≤ m) (h : ¬ 0 ≤ firstO out m) : ∀ i (hi : i < out.length), out[i] < m := by
 intro i hi
 unfold firstO at h
 cases hf : out.find? (fun t => decide (m ≤ t)) with
 | none =>
  rw [List.find?_eq_none] at hf
  have := hf out[i] (List.getElem_mem hi)
  simp at this
  omega
 | some t =>
  rw [hf] at h
  have h2 := List.find?_some hf
  simp only [decide_eq_true_eq] at h2
  simp only at h
  omega
theorem firstO_mem {out : List Int} {m : Int} (h : 0 ≤ firstO out m) : ∃ j, ∃ hj : j < out.length, firstO out m = out[j] ∧ m ≤ out[j] ∧ ∀ i (hi : i < j), out[i] < m := by
 unfold firstO at *
 cases hf : out.find? (fun t => decide (m ≤ t)) with
 | none => rw [hf] at h; simp at h
 | some t =>
  rw [List.find?_eq_some_iff_getElem] at hf
  obtain ⟨hp, j, hj, rfl, hall⟩ := hf
  simp only [decide_eq_true_eq] at hp
  exact ⟨j, hj, rfl, hp, fun i hi => by have := hall i hi; simp at this; omega⟩
/-- the greedy choice stays behind every plan -/
def behind (out pl : List Int) : Prop := out.length ≤ pl.length ∧ ∀ i (hi : i < out.length) (hi' : i < pl.length), pl[i] ≤ out[i]
theorem behind_all {pl : List Int} (hq : reqB d xs rs p = true) (hop : opsB d xs pl = true) (hs : servB rs pl p = true) : ∀ (k : Nat) (out : List Int) (r : Int), k ≤ rs.length → fewTo d xs p rs k = some (out, r) → behind out pl
 | 0, out, r, _, h => by
  simp [fewTo] at h
  rw [h.1]
  exact ⟨Nat.zero_le _, fun i hi => absurd hi (Nat.not_lt_zero i)⟩
 | k + 1, out, r, hk, h => by
  have hd := brB_dur (reqB_br hq)
  cases hp : fewTo d xs p rs k with
  | none => rw [fewTo_succ _ _ _ _ k (by omega), hp] at h; cases h
  | some a =>
   obtain ⟨o', r'⟩ := a
   have ih := behind_all hq hop hs k o' r' (by omega) hp
   rw [fewTo_next (by omega) hp] at h
   have hm := reqB_P hq k (by omega)
   have hw := serv_at hs k (by omega)
   generalize hmm : rs[k] = m at *
   by_cases hf : 0 ≤ firstO o' m
   ·rw [fewN_skip hf] at h
    simp only [Option.some.injEq, Prod.mk.injEq] at h
    rw [← h.1]; exact ih
   ·cases hl : lastF d xs (max m r') (min (m + p) 9999) with
    | none => rw [fewN_none hf hl] at h; cases h
    | some u =>
     rw [fewN_some hf hl] at h
     simp only [Option.some.injEq, Prod.mk.injEq] at h
     rw [← h.1]
     have hlt := firstO_lt hm.1 hf
     obtain ⟨hu1, hu2, hu3, hu4⟩ := lastF_some hl
     have hwf := wait_first hw.1
     obtain ⟨j, hj, hj1, hj2, hj3⟩ := firstO_mem hwf.2
     have hoj : o'.length ≤ j := by
      rcases Nat.lt_or_ge j o'.length with hc | hc
      ·have := ih.2 j hc hj
       have := hlt j hc
       omega
      ·exact hc
     refine ⟨by simp; omega, fun i hi hi' => ?_⟩
     rw [List.getElem_append]
     split
     ·rename_i hil
      exact ih.2 i hil hi'
     ·rename_i hil
      simp at hi
      obtain rfl : i = o'.length := by omega
      simp
      have hle : pl[o'.length] ≤ pl[j] := by
       by_cases he : o'.length = j
       ·subst he; exact Int.le_refl _
       ·have := opsB_mono hd.1 hop o'.length j (by omega) hj
        omega
      have hmay := opsB_at hop o'.length hi'
      have hmd := mayB_bd hmay
      rcases Int.lt_or_le u pl[o'.length] with hc | hc
      ·have := hu4 pl[o'.length] hc (by omega)
       rw [hmay] at this
       cases this
      ·exact hc
/-- what is chosen serves -/
def fewGood (d : Int) (xs : List (Int × Int)) (p : Int) (rs : List Int) (k : Nat) (out : List Int) (r : Int) : Prop :=
 fewOk d out r ∧ opsB d xs out = true ∧ servB (rs.take k) out p = true ∧ ∀ i (hi : i < out.length) j (_ : k ≤ j) (hj : j < rs.length), out[i] ≤ rs[j] + p
theorem opsB_app {out : List Int} {u : Int} (h : opsB d xs out = true) (hu : mayB d xs u = true) (hl : ∀ i (hi : i < out.length), out[i] + d ≤ u) : opsB d xs (out ++ [u]) = true := by
 refine opsB_all fun j hj => ?_
 simp at hj
 cases j with
 | zero =>
  rw [vAt_zero (by simp)]
  by_cases h0 : out.length = 0
  ·obtain rfl := List.eq_nil_of_length_eq_zero h0
   simpa using hu
  ·rw [List.getElem_append_left (by omega)]
   exact opsB_at h 0 (by omega)
 | succ j =>
  rw [vAt_succ j (by simp; omega), Bool.and_eq_true]
  rw [List.getElem_append_left (by omega : j < out.length)]
  by_cases he : j + 1 < out.length
  ·rw [List.getElem_append_left he]
   refine ⟨opsB_at h (j + 1) he, ?_⟩
   have := opsB_gap h j he
   simpa [gapLe] using this
  ·obtain he : j + 1 = out.length := by omega
   rw [List.getElem_append_right (by omega)]
   have h2 : [u][j + 1 - out.length]'(by simp; omega) = u := by simp [he]
   rw [h2]
   refine ⟨hu, ?_⟩
   have := hl j (by omega)
   simpa [gapLe] using this
theorem waitF_app {out : List Int} {u m : Int} (h : 0 ≤ waitF out m) : waitF (out ++ [u]) m = waitF out m := by
 have h1 := (wait_first h).2
 have : firstO (out ++ [u]) m = firstO out m := by
  obtain ⟨j, hj, e, hj2, hj3⟩ := firstO_mem h1
  rw [e]
  rw [firstO_hit (k := j) (by simp; omega) (fun i hi => by rw [List.getElem_append_left (by omega)]; exact hj3 i hi) (by rw [List.getElem_append_left (by omega)]; exact hj2)]
  rw [List.getElem_append_left (by omega)]
 unfold waitF
 rw [this]
theorem servB_take {rs : List Int} {pl : List Int} {p : Int} {k : Nat} (hk : k < rs.length) : servB (rs.take (k + 1)) pl p = (servB (rs.take k) pl p && servP pl p rs[k]) := by
 rw [servB_all, servB_all, all_snoc _ _ k hk]
theorem fewGood_all (hq : reqB d xs rs p = true) : ∀ (k : Nat) (out : List Int) (r : Int), k ≤ rs.length → fewTo d xs p rs k = some (out, r) → fewGood d xs p rs k out r
 | 0, out, r, _, h => by
  simp [fewTo] at h
  rw [h.1, ← h.2]
  exact ⟨fewOk_nil d, rfl, rfl, fun i hi => absurd hi (Nat.not_lt_zero i)⟩
 | k + 1, out, r, hk, h => by
  have hd := brB_dur (reqB_br hq)
  have hpp := reqB_p hq
  cases hp : fewTo d xs p rs k with
  | none => rw [fewTo_succ _ _ _ _ k (by omega), hp] at h; cases h
  | some a =>
   obtain ⟨o', r'⟩ := a
   obtain ⟨g1, g2, g3, g4⟩ := fewGood_all hq k o' r' (by omega) hp
   rw [fewTo_next (by omega) hp] at h
   have hm := reqB_P hq k (by omega)
   by_cases hf : 0 ≤ firstO o' rs[k]
   ·rw [fewN_skip hf] at h
    simp only [Option.some.injEq, Prod.mk.injEq] at h
    rw [← h.1, ← h.2]
    refine ⟨g1, g2, ?_, fun i hi j hj hj' => g4 i hi j (by omega) hj'⟩
    rw [servB_take (by omega), g3, Bool.true_and]
    refine servP_yes hf ?_
    obtain ⟨j, hj, e, _, _⟩ := firstO_mem hf
    rw [e]
    exact g4 j hj k (Nat.le_refl _) (by omega)
   ·cases hl : lastF d xs (max rs[k] r') (min (rs[k] + p) 9999) with
    | none => rw [fewN_none hf hl] at h; cases h
    | some u =>
     rw [fewN_some hf hl] at h
     simp only [Option.some.injEq, Prod.mk.injEq] at h
     rw [← h.1, ← h.2]
     obtain ⟨hu1, hu2, hu3, hu4⟩ := lastF_some hl
     have hmd := mayB_bd hu3
     have hlt := firstO_lt hm.1 hf
     refine ⟨fewOk_snoc g1 hd.1 (by omega) (by omega), opsB_app g2 hu3 (fun i hi => by have := (g1.1 i hi).2; omega), ?_, ?_⟩
     ·rw [servB_take (by omega), Bool.and_eq_true]
      constructor
      ·rw [servB_all, List.all_eq_true] at g3 ⊢
       intro m hmem
       have := g3 m hmem
       simp only [servP, decide_eq_true_eq] at this ⊢
       rw [waitF_app this.1]
       exact this
      ·have : firstO (o' ++ [u]) rs[k] = u := by
        rw [firstO_hit (k := o'.length) (by simp) (fun i hi => by rw [List.getElem_append_left (by omega)]; exact hlt i hi) (by simp; omega)]
        simp
       refine servP_yes (by omega) (by omega)
     ·intro i hi j hj hj'
      have hrj := req_le hq (j - k) k (by omega)
      simp only [show k + (j - k) = j by omega] at hrj
      rw [List.getElem_append]
      split
      ·rename_i hil
       have := g4 i hil k (Nat.le_refl _) (by omega)
       omega
      ·simp
       omega
end
/-- what the law asks: the fewest openings are a plan, and no plan has fewer -/
theorem few_law {d : Int} {xs : List (Int × Int)} {rs : List Int} {p : Int} (h : (fewV d xs rs p).2 = true) : planB d xs rs p (fewV d xs rs p).1 = true ∧ ∀ pl, planB d xs rs p pl = true → (fewV d xs rs p).1.length ≤ pl.length := by
 unfold fewV at h ⊢
 by_cases hq : reqB d xs rs p = true
 ·rw [if_pos hq] at h ⊢
  cases hf : fewTo d xs p rs rs.length with
  | none => rw [hf] at h; cases h
  | some a =>
   obtain ⟨out, r⟩ := a
   obtain ⟨g1, g2, g3, g4⟩ := fewGood_all hq rs.length out r (Nat.le_refl _) hf
   rw [List.take_length] at g3
   refine ⟨by rw [planB_eq hq g2]; exact g3, fun pl hpl => ?_⟩
   exact (behind_all hq (planB_ops hpl) (planB_serv hpl) rs.length out r (Nat.le_refl _) hf).1
 ·rw [if_neg hq] at h; cases h
/-- the waiting times' sum -/
theorem sum_law {d : Int} {xs : List (Int × Int)} {rs : List Int} {p : Int} {pl : List Int} (h : planB d xs rs p pl = true) : 0 ≤ (sumV d xs rs p pl).1 ∧ (sumV d xs rs p pl).1 ≤ p * rs.length := by
 have hs := planB_serv h
 have hp := reqB_p (planB_req h)
 unfold sumV
 rw [if_pos h]
 have key : ∀ k : Nat, k ≤ rs.length → 0 ≤ sumL (waitL (rs.take k) pl) ∧ sumL (waitL (rs.take k) pl) ≤ p * k := by
  intro k
  induction k with
  | zero => intro _; simp [waitL, sumL]
  | succ k ih =>
   intro hk
   have ih := ih (by omega)
   have := serv_at hs k (by omega)
   rw [waitL_snoc rs pl k (by omega), sumL_app]
   have e : p * ((k + 1 : Nat) : Int) = p * k + p := by rw [Int.natCast_add, Int.mul_add]; simp
   rw [e]
   omega
 have := key rs.length (Nat.le_refl _)
 rw [List.take_length] at this
 exact this

end Go.Proofs.Yteciijnpfapmhaa
namespace Go.Proofs.Yteciijnpfapmhaa
set_option linter.unusedSimpArgs false
set_option linter.unusedVariables false
open Go.RowKit

theorem br_law {d : Int} {xs : List (Int × Int)} {rs pl q : List Int} {p ws om : Int} {ok told fine yes : Bool} (hY : planB d xs rs p pl = yes) (hF : fewV d xs rs p = (q, ok)) (hS : sumV d xs rs p pl = (ws, told)) (hO : openV d xs rs p pl = (om, fine)) :
  told = yes ∧ fine = yes ∧ q.length ≤ 8 ∧ (ok = true → planB d xs rs p q = true ∧ (yes = true → q.length ≤ pl.length)) ∧
  (yes = true → (0 ≤ ws ∧ ws ≤ p * rs.length) ∧ om = (pl.length : Int) * d ∧ (0 ≤ p * rs.length ∧ p * rs.length ≤ 1200) ∧ (0 ≤ (pl.length : Int) * d ∧ (pl.length : Int) * d ≤ 300000)) := by
 have hl := fewV_len d xs rs p
 rw [hF] at hl
 have hsum := hS
 have hopen := hO
 unfold sumV at hS
 unfold openV at hO
 refine ⟨?_, ?_, hl, ?_, ?_⟩
 ·cases yes with
  | true => rw [if_pos hY] at hS; simp only [Prod.mk.injEq] at hS; exact hS.2.symm
  | false => rw [if_neg (by rw [hY]; simp)] at hS; simp only [Prod.mk.injEq] at hS; exact hS.2.symm
 ·cases yes with
  | true => rw [if_pos hY] at hO; simp only [Prod.mk.injEq] at hO; exact hO.2.symm
  | false => rw [if_neg (by rw [hY]; simp)] at hO; simp only [Prod.mk.injEq] at hO; exact hO.2.symm
 ·rintro rfl
  have h := few_law (d := d) (xs := xs) (rs := rs) (p := p) (by rw [hF])
  rw [hF] at h
  refine ⟨h.1, ?_⟩
  rintro rfl
  exact h.2 pl hY
 ·rintro rfl
  have h1 := sum_law hY
  rw [hsum] at h1
  rw [if_pos hY] at hO
  simp only [Prod.mk.injEq] at hO
  have hp := reqB_p (planB_req hY)
  have hn := vB_len (reqB_v (planB_req hY))
  have hd := brB_dur (reqB_br (planB_req hY))
  refine ⟨h1, hO.1.symm, ⟨Int.mul_nonneg hp.1 (by omega), ?_⟩, openB (opsB_len hd.1 (planB_ops hY)) hd⟩
  have := Int.mul_le_mul hp.2 (show (rs.length : Int) ≤ 8 by omega) (by omega) (by omega)
  omega

end Go.Proofs.Yteciijnpfapmhaa
namespace Go.Proofs.Yteciijnpfapmhaa
set_option linter.unusedSimpArgs false
set_option linter.unusedVariables false
open Go.RowKit

def CurS (w : World) (b : Nat) (A : Option Addr) (cs : List Int) (cap : Nat) (m : Int) : Prop := Cur w b A cs.length cap m ∧ RdsN b cB 1 w A cs
theorem RdsN.grownb {α : Type} {cf : α → List Value} {sz b : Nat} {w w' : World} {A : Option Addr} {xs : List α} (h : RdsN b cf sz w A xs) (hb : b < w.heap.size) (hg : w.grownBy w' (some b)) : RdsN b cf sz w' A xs := by
 intro i x hx
 obtain ⟨g, off, hA, hlt, hc⟩ := h i x hx
 refine ⟨g, off, hA, hlt, fun j v hv => ?_⟩
 exact (World.cell?_of_block (a := ⟨g, off + i * sz + j, none⟩) (hg.block g (by omega) (by simp; omega))).trans (hc j v hv)
theorem CurS.lt {w : World} {b cap : Nat} {A : Option Addr} {cs : List Int} {m : Int} (h : CurS w b A cs cap m) : b < w.heap.size := h.1.1
theorem CurS.mono {w : World} {b cap : Nat} {A : Option Addr} {cs : List Int} {m m' : Int} (h : CurS w b A cs cap m) (hm : m ≤ m') : CurS w b A cs cap m' := by
 obtain ⟨⟨hb, q0, ⟨a, h1, h2, q1⟩, q2, qz⟩, hr⟩ := h
 exact ⟨⟨hb, q0, ⟨a, h1, by omega, q1⟩, q2, qz⟩, hr⟩
/-- the cursor stays where nothing at or below its block has turned -/
theorem CurS.below {w w' : World} {b cap : Nat} {A : Option Addr} {cs : List Int} {m : Int} (h : CurS w b A cs cap m) (hb : Below w.heap.size w w') : CurS w' b A cs cap m := by
 obtain ⟨⟨hlt, q0, ⟨a, h1, h2, q1⟩, ⟨s, q2⟩, qz⟩, hr⟩ := h
 have hc : ∀ o, w'.cell? ⟨b, o, none⟩ = w.cell? ⟨b, o, none⟩ := fun o => hb.cell (p := ⟨b, o, none⟩) hlt
 refine ⟨⟨Nat.lt_of_lt_of_le hlt hb.size, by rw [hc]; exact q0, ⟨a, h1, h2, by rw [hc]; exact q1⟩, ⟨s, by rw [hc]; exact q2⟩, fun o => by rw [hb.frozen (p := ⟨b, o, none⟩) hlt]; exact qz o⟩, ?_⟩
 intro i x hx
 obtain ⟨g, off, hA, hg, hcc⟩ := hr i x hx
 exact ⟨g, off, hA, hg, fun j v hv => (hb.cell (p := ⟨g, off + i * 1 + j, none⟩) (by show g < _; omega)).trans (hcc j v hv)⟩
theorem grown_trans {a w w' : World} {row : Option Nat} (h : a.grownBy w row) (h' : w.grownBy w' row) : a.grownBy w' row :=
 ⟨h'.os.trans h.os, h'.tape.trans h.tape, h'.output.trans h.output, Nat.le_trans h.size h'.size, fun i hi hne => (h'.block i (Nat.lt_of_lt_of_le hi h.size) hne).trans (h.block i hi hne)⟩
theorem grown_of_below {w w' : World} {row : Option Nat} (h : Below w.heap.size w w') : w.grownBy w' row := ⟨h.os, h.tape, h.output, h.size, fun i hi _ => h.block i hi⟩
theorem grown_alloc (w : World) (o : Obj) (row : Option Nat) : w.grownBy (w.alloc o) row := grown_of_below ((Below.refl _ _).alloc (Nat.le_refl _) _)
theorem c_nextS (b : Nat) (A : Option Addr) (cs : List Int) (cap : Nat) (m : Int) (w : World) (hcu : CurS w b A cs cap m) (hby : Bytes cs) (hm : 0 ≤ m ∧ m ≤ 1000000000) (hl : cs.length ≤ 1000000000) :
  Calls Try.prog 91 #[.pointer (some ⟨b, 0, none⟩)] w fun e w' => ∃ x : Int, e = .returned (.int .i64 x) ∧ 0 ≤ x ∧ x ≤ 255 ∧ CurS w' b A cs cap (m + 1) ∧ w.grownBy w' (some b) :=
 (c_next b A cs cap m w hcu.1 hcu.2 hby hm hl).mono fun _ _ ⟨x, he, h1, h2, h3, h4⟩ => ⟨x, he, h1, h2, ⟨h3, hcu.2.grownb hcu.1.1 h4⟩, h4⟩
theorem emod_bd {x n : Int} (hn : 1 < n) : 0 ≤ x % n ∧ x % n < n := ⟨Int.emod_nonneg _ (by omega), Int.emod_lt_of_pos _ (by omega)⟩
set_option maxHeartbeats 2000000 in
theorem c_pick (b : Nat) (A : Option Addr) (cs : List Int) (cap : Nat) (m n : Int) (w : World) (hcu : CurS w b A cs cap m) (hby : Bytes cs) (hm : 0 ≤ m ∧ m ≤ 900000000) (hl : cs.length ≤ 1000000000) (hn : n ≤ 200) :
  Calls Try.prog 76 #[.pointer (some ⟨b, 0, none⟩), .int .i64 n] w fun e w' => ∃ x : Int, e = .returned (.int .i64 x) ∧ 0 ≤ x ∧ (x = 0 ∨ x < n) ∧ CurS w' b A cs cap (m + 1) ∧ w.grownBy w' (some b) := by
 by_cases h1 : n ≤ 1
 ·go_enter Try.func76, Try.ntmps76
  go_wp2_with (fail)
  go_ret
  exact ⟨0, rfl, by omega, .inl rfl, hcu.mono (by omega), World.grownBy.refl _ _⟩
 ·go_enter Try.func76, Try.ntmps76
  go_wp2_with (fail)
  refine (c_nextS b A cs cap m _ hcu hby (by omega) hl).mono ?_
  rintro e w1 ⟨x, rfl, hx0, hx1, hcu1, hg1⟩
  go_wp2_with (fail)
  have ht := emod_bd (x := x) (n := n) (by omega)
  go_ret
  exact ⟨x % n, rfl, ht.1, .inr ht.2, hcu1, hg1⟩

end Go.Proofs.Yteciijnpfapmhaa
namespace Go.Proofs.Yteciijnpfapmhaa
set_option linter.unusedSimpArgs false
set_option linter.unusedVariables false
open Go.RowKit

def cI (x : Int) : List Value := [.int .i64 x]
theorem Rds.of_block {w : World} {g : Nat} {cur : Array Value} {T : TypeId} {fr : Nat × Nat} {L : List Int} (h : w.heap[g]? = some (.cells cur T fr)) (hc : ∀ (i : Nat) (x : Int), L[i]? = some x → cur[i]? = some (Value.int .i64 x)) : Rds cI 1 w (some ⟨g, 0, none⟩) L := by
 intro i x hx
 have hlt : g < w.heap.size := by
  rcases Nat.lt_or_ge g w.heap.size with hl | hl
  ·exact hl
  ·rw [Array.getElem?_eq_none hl] at h; cases h
 refine ⟨g, 0, rfl, hlt, fun j v hv => ?_⟩
 match j, hv with
 | 0, hv =>
  simp only [cI, List.getElem?_cons_zero, Option.some.injEq] at hv
  subst hv
  simp [World.cell?, h, hc i x hx]
 | j + 1, hv => simp [cI] at hv
set_option maxHeartbeats 2000000 in
theorem c_one (b : Nat) (A : Option Addr) (cs : List Int) (cap : Nat) (m n : Int) (w : World) (hcu : CurS w b A cs cap m) (hby : Bytes cs) (hm : 0 ≤ m ∧ m ≤ 900000000) (hl : cs.length ≤ 1000000000) (hn : n ≤ 200) :
  Calls Try.prog 92 #[.pointer (some ⟨b, 0, none⟩), .int .i64 n] w fun e w' => ∃ y : Bool, e = .returned (.bool y) ∧ CurS w' b A cs cap (m + 1) ∧ w.grownBy w' (some b) := by
 go_enter Try.func92, Try.ntmps92
 go_wp2_with (fail)
 refine (c_pick b A cs cap m n _ hcu hby hm hl hn).mono ?_
 rintro e w1 ⟨x, rfl, hx0, hx1, hcu1, hg1⟩
 go_wp2_with (fail)
 all_goals go_ret
 all_goals exact ⟨_, rfl, hcu1, hg1⟩
set_option maxHeartbeats 2000000 in
theorem c_among (b : Nat) (A : Option Addr) (cs : List Int) (cap : Nat) (m : Int) (AL : Option Addr) (L : List Int) (capL : Nat) (lo hi : Int) (w : World) (hcu : CurS w b A cs cap m) (hby : Bytes cs) (hm : 0 ≤ m ∧ m ≤ 900000000) (hl : cs.length ≤ 1000000000)
  (hL : Rds cI 1 w AL L) (hlen : 0 < L.length ∧ L.length ≤ 200) (hne : ∀ a, AL = some a → some a.block ≠ some b) (hbd : ∀ k (hk : k < L.length), lo ≤ L[k] ∧ L[k] ≤ hi) :
  Calls Try.prog 79 #[.pointer (some ⟨b, 0, none⟩), .slice AL L.length capL] w fun e w' => ∃ y : Int, e = .returned (.int .i64 y) ∧ lo ≤ y ∧ y ≤ hi ∧ CurS w' b A cs cap (m + 1) ∧ w.grownBy w' (some b) := by
 go_enter Try.func79, Try.ntmps79
 go_wp2_with (fail)
 refine (c_pick b A cs cap m L.length _ hcu hby hm hl (by omega)).mono ?_
 rintro e w1 ⟨x, rfl, hx0, hx1, hcu1, hg1⟩
 obtain ⟨k, rfl⟩ : ∃ k : Nat, x = k := ⟨x.toNat, by omega⟩
 have hk : k < L.length := by omega
 have hL1 := hL.grown hg1 hne
 obtain ⟨bx, ox, rfl, hbx, hcx⟩ := hL1 k L[k] (List.getElem?_eq_getElem hk)
 have hx := hcx 0 _ rfl
 simp only [Nat.add_zero, Nat.mul_one] at hx
 have hy := hbd k hk
 clear hcx hL1 hbd hL hne
 generalize L[k] = y at *
 generalize L.length = n at *
 go_wp2_with (fail)
 all_goals go_ret
 all_goals exact ⟨y, rfl, hy.1, hy.2, hcu1, hg1⟩

end Go.Proofs.Yteciijnpfapmhaa
namespace Go.Proofs.Yteciijnpfapmhaa
set_option linter.unusedSimpArgs false
set_option linter.unusedVariables false
open Go.RowKit

theorem cellRow {W w' : World} {b : Nat} (hg : W.grownBy w' (some b)) : ∀ g o, w'.cell? ⟨g, o, none⟩ = if g < W.heap.size ∧ g ≠ b then W.cell? ⟨g, o, none⟩ else far w' g o := by
 intro g o
 by_cases h : g < W.heap.size ∧ g ≠ b
 ·rw [if_pos h]; exact World.cell?_of_block (a := ⟨g, o, none⟩) (hg.block g h.1 (by simpa using h.2))
 ·rw [if_neg h]; rfl
theorem frozRow {W w' : World} {b : Nat} (hg : W.grownBy w' (some b)) : ∀ g o, w'.frozen? ⟨g, o, none⟩ = if g < W.heap.size ∧ g ≠ b then W.frozen? ⟨g, o, none⟩ else farz w' g o := by
 intro g o
 by_cases h : g < W.heap.size ∧ g ≠ b
 ·rw [if_pos h]; exact World.frozen?_of_block (a := ⟨g, o, none⟩) (hg.block g h.1 (by simpa using h.2))
 ·rw [if_neg h]; rfl
theorem Rds.of_lit {w : World} {g : Nat} {cur : Array Value} {T : TypeId} {L : List Int} (hg : g = w.heap.size) (hc : ∀ (i : Nat) (x : Int), L[i]? = some x → cur[i]? = some (Value.int .i64 x)) : Rds cI 1 (w.alloc (.cells cur T)) (some ⟨g, 0, none⟩) L := by
 subst hg
 exact Rds.of_block (heap_alloc_new _ _) hc
theorem CurS.setc {w : World} {b cap : Nat} {A : Option Addr} {cs : List Int} {m : Int} {p : Addr} {v : Value} (h : CurS w b A cs cap m) (hp : b < p.block) : CurS (w.setCell p v) b A cs cap m := by
 obtain ⟨⟨hlt, q0, ⟨a, h1, h2, q1⟩, ⟨s, q2⟩, qz⟩, hr⟩ := h
 have hk : ∀ g, g ≤ b → (w.setCell p v).heap[g]? = w.heap[g]? := fun g hg => Below.heap_setCell w p v g (by omega)
 have hc : ∀ g, g ≤ b → ∀ o, (w.setCell p v).cell? ⟨g, o, none⟩ = w.cell? ⟨g, o, none⟩ := fun g hg o => World.cell?_of_block (a := ⟨g, o, none⟩) (hk g hg)
 have hz : ∀ o, (w.setCell p v).frozen? ⟨b, o, none⟩ = w.frozen? ⟨b, o, none⟩ := fun o => World.frozen?_of_block (a := ⟨b, o, none⟩) (hk b (Nat.le_refl _))
 refine ⟨⟨by simpa [World.setCell] using hlt, by rw [hc b (Nat.le_refl _)]; exact q0, ⟨a, h1, h2, by rw [hc b (Nat.le_refl _)]; exact q1⟩, ⟨s, by rw [hc b (Nat.le_refl _)]; exact q2⟩, fun o => by rw [hz]; exact qz o⟩, ?_⟩
 intro i x hx
 obtain ⟨g, off, hA, hg, hcc⟩ := hr i x hx
 exact ⟨g, off, hA, hg, fun j u hu => (hc g (by omega) _).trans (hcc j u hu)⟩
theorem CurS.allo {w : World} {b cap : Nat} {A : Option Addr} {cs : List Int} {m : Int} {o : Obj} (h : CurS w b A cs cap m) : CurS (w.alloc o) b A cs cap m := h.below ((Below.refl _ _).alloc (Nat.le_refl _) _)
theorem CurS.drw {w : World} {b cap : Nat} {A : Option Addr} {cs : List Int} {m : Int} (h : CurS w b A cs cap m) : CurS w.drew b A cs cap m := h.below ((Below.refl _ _).drew)
theorem grownA {a w : World} {row : Option Nat} {o : Obj} (h : a.grownBy w row) : a.grownBy (w.alloc o) row := grown_trans h (grown_alloc w o row)
theorem grownS {a w : World} {row : Option Nat} {p : Addr} {v : Value} (h : a.grownBy w row) (hp : a.heap.size ≤ p.block) : a.grownBy (w.setCell p v) row :=
 ⟨h.os, h.tape, h.output, by simpa [World.setCell] using h.size, fun i hi hne => (Below.heap_setCell w p v i (by omega)).trans (h.block i hi hne)⟩
theorem grownT {a W w' : World} {row : Option Nat} (hg : W.grownBy w' row) (h : a.grownBy W row) : a.grownBy w' row := grown_trans h hg

end Go.Proofs.Yteciijnpfapmhaa
namespace Go.Proofs.Yteciijnpfapmhaa
set_option linter.unusedSimpArgs false
set_option linter.unusedVariables false
open Go.RowKit


end Go.Proofs.Yteciijnpfapmhaa
namespace Go.Proofs.Yteciijnpfapmhaa
set_option linter.unusedSimpArgs false
set_option linter.unusedVariables false
open Go.RowKit

theorem CurS.keep {w w' : World} {b cap : Nat} {A : Option Addr} {cs : List Int} {m : Int} (h : CurS w b A cs cap m) (hk : ∀ g, g ≤ b → w'.heap[g]? = w.heap[g]?) (hs : w.heap.size ≤ w'.heap.size) : CurS w' b A cs cap m := by
 obtain ⟨⟨hlt, q0, ⟨a, h1, h2, q1⟩, ⟨s, q2⟩, qz⟩, hr⟩ := h
 have hc : ∀ g, g ≤ b → ∀ o, w'.cell? ⟨g, o, none⟩ = w.cell? ⟨g, o, none⟩ := fun g hg o => World.cell?_of_block (a := ⟨g, o, none⟩) (hk g hg)
 have hz : ∀ o, w'.frozen? ⟨b, o, none⟩ = w.frozen? ⟨b, o, none⟩ := fun o => World.frozen?_of_block (a := ⟨b, o, none⟩) (hk b (Nat.le_refl _))
 refine ⟨⟨by omega, by rw [hc b (Nat.le_refl _)]; exact q0, ⟨a, h1, h2, by rw [hc b (Nat.le_refl _)]; exact q1⟩, ⟨s, by rw [hc b (Nat.le_refl _)]; exact q2⟩, fun o => by rw [hz]; exact qz o⟩, ?_⟩
 intro i x hx
 obtain ⟨g, off, hA, hg, hcc⟩ := hr i x hx
 exact ⟨g, off, hA, hg, fun j u hu => (hc g (by omega) _).trans (hcc j u hu)⟩
theorem ne_blk {A2 : Option Addr} {B g : Nat} (hl : Lo B A2) (hg : g < B) : some g ≠ blkO A2 := by
 intro e
 cases hA : A2 with
 | none => rw [hA] at e; cases e
 | some x =>
  rw [hA] at e
  simp only [blkO, Option.map_some, Option.some.injEq] at e
  have := hl x hA
  omega
/-- the cursor stays where a row from block B on has grown -/
theorem CurS.other {w w' : World} {b cap B : Nat} {A A2 : Option Addr} {cs : List Int} {m : Int} (h : CurS w b A cs cap m) (hg : w.grownBy w' (blkO A2)) (hl : Lo B A2) (hB : b < B) : CurS w' b A cs cap m :=
 h.keep (fun g hgb => hg.block g (Nat.lt_of_le_of_lt hgb h.lt) (ne_blk hl (by omega))) hg.size
theorem grown_other {a w w' : World} {row : Option Nat} {A2 : Option Addr} (h : a.grownBy w row) (hg : w.grownBy w' (blkO A2)) (hl : Lo a.heap.size A2) : a.grownBy w' row :=
 ⟨hg.os.trans h.os, hg.tape.trans h.tape, hg.output.trans h.output, Nat.le_trans h.size hg.size, fun i hi hne => (hg.block i (Nat.lt_of_lt_of_le hi h.size) (ne_blk hl hi)).trans (h.block i hi hne)⟩
theorem FreshA.rowb {α : Type} {cf : α → List Value} {sz B cap b : Nat} {T : TypeId} {w w' : World} {A : Option Addr} {xs : List α} (h : FreshA cf sz T B w A cap xs) (hg : w.grownBy w' (some b)) (hb : b < B) : FreshA cf sz T B w' A cap xs :=
 h.grown hg fun a ha e => by
  have := h.lo a ha
  simp only [Option.some.injEq] at e
  omega

end Go.Proofs.Yteciijnpfapmhaa
namespace Go.Proofs.Yteciijnpfapmhaa
set_option linter.unusedSimpArgs false
set_option linter.unusedVariables false
open Go.RowKit

set_option maxRecDepth 100000 in
set_option maxHeartbeats 4000000 in
theorem c_minute (b : Nat) (A : Option Addr) (cs : List Int) (cap : Nat) (m : Int) (w : World) (hcu : CurS w b A cs cap m) (hby : Bytes cs) (hm : 0 ≤ m ∧ m ≤ 800000000) (hl : cs.length ≤ 1000000000) :
  Calls Try.prog 78 #[.pointer (some ⟨b, 0, none⟩)] w fun e w' => ∃ x : Int, e = .returned (.int .i64 x) ∧ -1 ≤ x ∧ x ≤ 10000 ∧ CurS w' b A cs cap (m + 2) ∧ w.grownBy w' (some b) := by
 have hlt0 := hcu.lt
 go_enter Try.func78, Try.ntmps78
 go_wp2_with (fail)
 refine (c_one b A cs cap (m) 20 _ (by repeat' (first | exact CurS.mono hcu (by omega) | refine CurS.setc ?_ ?_ | refine CurS.allo ?_ | refine CurS.drw ?_ | (simp; done) | (simp at *; omega) | omega)) hby (by omega) hl (by omega)).mono ?_
 rintro e W1 ⟨y1, rfl,  hcu1, hg1⟩
 have hc1 := cellRow hg1
 have hf1 := frozRow hg1
 have hz1 := hg1.size
 have hlt1 := hcu1.lt
 try simp at hz1
 cases y1
 ·go_wp2_with (fail)
  refine (c_pick b A cs cap (m + 1) (120) _ (by repeat' (first | exact CurS.mono hcu1 (by omega) | refine CurS.setc ?_ ?_ | refine CurS.allo ?_ | refine CurS.drw ?_ | (simp; done) | (simp at *; omega) | omega)) hby (by omega) hl (by omega)).mono ?_
  rintro e W2 ⟨x2, rfl, hx2a, hx2b, hcu2, hg2⟩
  have hc2 := cellRow hg2
  have hf2 := frozRow hg2
  have hz2 := hg2.size
  have hlt2 := hcu2.lt
  try simp at hz2
  go_wp2_with (fail)
  go_ret
  exact ⟨x2, rfl, by omega, by omega, (by repeat' (first | exact CurS.mono hcu2 (by omega) | refine CurS.setc ?_ ?_ | refine CurS.allo ?_ | refine CurS.drw ?_ | (simp; done) | (simp at *; omega) | omega)), by (repeat' (first | exact World.grownBy.refl _ _ | assumption | refine grownA ?_ | refine grownS ?_ ?_ | refine grown_drew ?_ | refine grownT (by assumption) ?_ | (simp; done) | (simp at *; omega) | omega))⟩
 ·go_wp2_with (fail)
  refine (c_among b A cs cap (m + 1) _ ([-1, 9999, 10000] : List Int) _ (-1) (10000) _ (by repeat' (first | exact CurS.mono hcu1 (by omega) | refine CurS.setc ?_ ?_ | refine CurS.allo ?_ | refine CurS.drw ?_ | (simp; done) | (simp at *; omega) | omega)) hby (by omega) hl (Rds.of_lit (by simp) (by intro i x h; rcases i with _ | _ | _ | i <;> simp at h ⊢ <;> first | exact h | omega)) (by simp) (by intro a ha; cases ha; simp; omega) (fun k hk => (show ∀ x ∈ ([-1, 9999, 10000] : List Int), -1 ≤ x ∧ x ≤ 10000 by intro x hx; simp at hx; omega) _ (List.getElem_mem hk))).mono ?_
  rintro e W2 ⟨x2, rfl, hx2a, hx2b, hcu2, hg2⟩
  have hc2 := cellRow hg2
  have hf2 := frozRow hg2
  have hz2 := hg2.size
  have hlt2 := hcu2.lt
  try simp at hz2
  go_wp2_with (fail)
  go_ret
  exact ⟨x2, rfl, by omega, by omega, (by repeat' (first | exact CurS.mono hcu2 (by omega) | refine CurS.setc ?_ ?_ | refine CurS.allo ?_ | refine CurS.drw ?_ | (simp; done) | (simp at *; omega) | omega)), by (repeat' (first | exact World.grownBy.refl _ _ | assumption | refine grownA ?_ | refine grownS ?_ ?_ | refine grown_drew ?_ | refine grownT (by assumption) ?_ | (simp; done) | (simp at *; omega) | omega))⟩

end Go.Proofs.Yteciijnpfapmhaa
namespace Go.Proofs.Yteciijnpfapmhaa
set_option linter.unusedSimpArgs false
set_option linter.unusedVariables false
open Go.RowKit

set_option maxRecDepth 100000 in
set_option maxHeartbeats 4000000 in
theorem c_interval (b : Nat) (A : Option Addr) (cs : List Int) (cap : Nat) (m : Int) (w : World) (hcu : CurS w b A cs cap m) (hby : Bytes cs) (hm : 0 ≤ m ∧ m ≤ 800000000) (hl : cs.length ≤ 1000000000) :
  Calls Try.prog 80 #[.pointer (some ⟨b, 0, none⟩)] w fun e w' => ∃ f t : Int, e = .returned (.agg #[.int .i64 f, .int .i64 t]) ∧ (-1 ≤ f ∧ f ≤ 10000) ∧ (-2 ≤ t ∧ t ≤ 10060) ∧ CurS w' b A cs cap (m + 5) ∧ w.grownBy w' (some b) := by
 have hlt0 := hcu.lt
 go_enter Try.func80, Try.ntmps80
 go_wp2_with (fail)
 refine (c_minute b A cs cap (m) _ (by repeat' (first | exact CurS.mono hcu (by omega) | refine CurS.setc ?_ ?_ | refine CurS.allo ?_ | refine CurS.drw ?_ | (simp; done) | (simp at *; omega) | omega)) hby (by omega) hl).mono ?_
 rintro e W1 ⟨x1, rfl, hx1a, hx1b, hcu1, hg1⟩
 have hc1 := cellRow hg1
 have hf1 := frozRow hg1
 have hz1 := hg1.size
 have hlt1 := hcu1.lt
 try simp at hz1
 go_wp2_with (fail)
 refine (c_among b A cs cap (m + 2) _ ([0, 1, 5, 20, 60] : List Int) _ (0) (60) _ (by repeat' (first | exact CurS.mono hcu1 (by omega) | refine CurS.setc ?_ ?_ | refine CurS.allo ?_ | refine CurS.drw ?_ | (simp; done) | (simp at *; omega) | omega)) hby (by omega) hl (Rds.of_lit (by simp) (by intro i x h; rcases i with _ | _ | _ | _ | _ | i <;> simp at h ⊢ <;> first | exact h | omega)) (by simp) (by intro a ha; cases ha; simp; omega) (fun k hk => (show ∀ x ∈ ([0, 1, 5, 20, 60] : List Int), 0 ≤ x ∧ x ≤ 60 by intro x hx; simp at hx; omega) _ (List.getElem_mem hk))).mono ?_
 rintro e W2 ⟨x2, rfl, hx2a, hx2b, hcu2, hg2⟩
 have hc2 := cellRow hg2
 have hf2 := frozRow hg2
 have hz2 := hg2.size
 have hlt2 := hcu2.lt
 try simp at hz2
 go_wp2_with (fail)
 refine (c_one b A cs cap (m + 3) 24 _ (by repeat' (first | exact CurS.mono hcu2 (by omega) | refine CurS.setc ?_ ?_ | refine CurS.allo ?_ | refine CurS.drw ?_ | (simp; done) | (simp at *; omega) | omega)) hby (by omega) hl (by omega)).mono ?_
 rintro e W3 ⟨y3, rfl,  hcu3, hg3⟩
 have hc3 := cellRow hg3
 have hf3 := frozRow hg3
 have hz3 := hg3.size
 have hlt3 := hcu3.lt
 try simp at hz3
 cases y3
 ·go_wp2_with (fail)
  refine bodyPost_ret (v := .agg #[.int .i64 x1, .int .i64 (x1 + x2)]) ?_ rfl ⟨x1, x1 + x2, rfl, by omega, by omega, (by repeat' (first | exact CurS.mono hcu3 (by omega) | refine CurS.setc ?_ ?_ | refine CurS.allo ?_ | refine CurS.drw ?_ | (simp; done) | (simp at *; omega) | omega)), by (repeat' (first | exact World.grownBy.refl _ _ | assumption | refine grownA ?_ | refine grownS ?_ ?_ | refine grown_drew ?_ | refine grownT (by assumption) ?_ | (simp; done) | (simp at *; omega) | omega))⟩
  simp [results, Try.results80, go_sem, ↓IntWalk.iteOmega, *]
 ·go_wp2_with (fail)
  refine (c_among b A cs cap (m + 4) _ ([x1 - 1, 9999, 10000] : List Int) _ (-2) (10000) _ (by repeat' (first | exact CurS.mono hcu3 (by omega) | refine CurS.setc ?_ ?_ | refine CurS.allo ?_ | refine CurS.drw ?_ | (simp; done) | (simp at *; omega) | omega)) hby (by omega) hl (Rds.of_lit (by simp) (by intro i x h; rcases i with _ | _ | _ | i <;> simp at h ⊢ <;> first | exact h | omega)) (by simp) (by intro a ha; cases ha; simp; omega) (fun k hk => (show ∀ x ∈ ([x1 - 1, 9999, 10000] : List Int), -2 ≤ x ∧ x ≤ 10000 by intro x hx; simp at hx; omega) _ (List.getElem_mem hk))).mono ?_
  rintro e W4 ⟨x4, rfl, hx4a, hx4b, hcu4, hg4⟩
  have hc4 := cellRow hg4
  have hf4 := frozRow hg4
  have hz4 := hg4.size
  have hlt4 := hcu4.lt
  try simp at hz4
  go_wp2_with (fail)
  refine bodyPost_ret (v := .agg #[.int .i64 x1, .int .i64 x4]) ?_ rfl ⟨x1, x4, rfl, by omega, by omega, (by repeat' (first | exact CurS.mono hcu4 (by omega) | refine CurS.setc ?_ ?_ | refine CurS.allo ?_ | refine CurS.drw ?_ | (simp; done) | (simp at *; omega) | omega)), by (repeat' (first | exact World.grownBy.refl _ _ | assumption | refine grownA ?_ | refine grownS ?_ ?_ | refine grown_drew ?_ | refine grownT (by assumption) ?_ | (simp; done) | (simp at *; omega) | omega))⟩
  simp [results, Try.results80, go_sem, ↓IntWalk.iteOmega, *]

end Go.Proofs.Yteciijnpfapmhaa
namespace Go.Proofs.Yteciijnpfapmhaa
set_option linter.unusedSimpArgs false
set_option linter.unusedVariables false
open Go.RowKit

section
variable {α : Type} {cf : α → List Value} {sz : Nat} {T : TypeId} {w w' : World} {A : Option Addr} {xs : List α} {g cap B : Nat}
theorem flatMap_src (hcf : ∀ x, (cf x).length = sz) (hsz : 0 < sz) {ys : List α} {ga oa : Nat} (hn : ∀ i (hi : i < ys.length) j u, (cf ys[i])[j]? = some u → w.cell? ⟨ga, oa + i * sz + j, none⟩ = some u) :
  ∀ j u, (ys.flatMap cf)[j]? = some u → w.cell? ((⟨ga, oa, none⟩ : Addr).add j) = some u := by
 intro p u hp
 have hpl : p < ys.length * sz := by
  rcases Nat.lt_or_ge p (ys.flatMap cf).length with hl | hl
  ·rwa [flatMap_len hcf] at hl
  ·rw [List.getElem?_eq_none hl] at hp; cases hp
 have hi : p / sz < ys.length := Nat.div_lt_of_lt_mul (by rw [Nat.mul_comm]; exact hpl)
 have hj : p % sz < sz := Nat.mod_lt _ hsz
 have e : p / sz * sz + p % sz = p := by rw [Nat.mul_comm]; exact Nat.div_add_mod p sz
 have hx : ys[p / sz]? = some ys[p / sz] := List.getElem?_eq_getElem hi
 have h7 := flatMap_at hcf ys _ _ _ hx hj
 rw [e, hp] at h7
 have h8 := hn _ hi _ _ h7.symm
 have e2 : (⟨ga, oa, none⟩ : Addr).add p = ⟨ga, oa + p, none⟩ := by
  unfold Addr.add
  by_cases h0 : p = 0 <;> simp [h0]
 rw [e2]
 rwa [show oa + p / sz * sz + p % sz = oa + p by omega] at h8
/-- 'append(s, ys...)' on a slice of the call's own -/
theorem wp_pushes {P : Program} {o : Oper} {a : Act} {K : Act → World → Prop} {Q : Exit → Act → World → Prop} (s x : Operand) (t : TypeId)
  (ho : o.op = .call { callee := .builtin .append, args := #[s, x], argTypes := #[t, t] })
  (e : TypeId) (i : TypeInfo) (z : Value) (bytes : Nat) (ht : P.underlying t = some (.slice e)) (hi : P.info? e = some i) (hz : i.zero = some z)
  (hsize : i.size = sz) (hby : i.bytes = bytes) (hzs : z.cells.size = sz) (hsz : 0 < sz) (hcf : ∀ x, (cf x).length = sz) (hone : ∀ x, ∀ u ∈ cf x, u.oneCell' = true)
  (n : Nat) (hn : xs.length = n) (hs : a.eval s = .slice A n cap) (hF : FreshA cf sz e B w A cap xs)
  (ys : List α) (m : Nat) (hm : ys.length = m) (ga oa c : Nat) (hx : a.eval x = .slice (some ⟨ga, oa, none⟩) m c) (hnews : ∀ i (hi : i < ys.length) j u, (cf ys[i])[j]? = some u → w.cell? ⟨ga, oa + i * sz + j, none⟩ = some u)
  (h63 : n + m ≤ maxLen) (hbytes : (n + m) * bytes ≤ 140737488355328) (hbase : B ≤ w.heap.size)
  (h : ∀ A' cap' w', FreshA cf sz e B w' A' cap' (xs ++ ys) → w.grownBy w' (blkO A) → (blkO A' = blkO A ∨ blkO A' = some w.heap.size) → K (a.put o.dst (.slice A' (n + m) cap')) w') : o.wp P a w K Q := by
 subst hn hm
 have hown := hF.own hcf hsz
 obtain ⟨v', w', hrun, hown', hg, _, hat⟩ := run_append_own_at (P := P) w B t o.type e i z sz bytes ht hi hz hsize hby hzs hsz _ _ _ hown ⟨ga, oa, none⟩ ys.length c (ys.flatMap cf) (flatMap_len hcf ys) (flatMap_src hcf hsz hnews) (fun u hu => by
  obtain ⟨y, _, hy⟩ := List.mem_flatMap.1 hu
  exact hone y u hy) h63 hbytes hbase
 unfold Oper.wp execOp
 simp only [ho, resolve, invoke, builtin, Sem.run_bind, Sem.run_pure, Result.andThen_ok, List.map_toArray, List.map_cons, List.map_nil, hs, hx, hrun]
 have hl : (xs ++ ys).length = xs.length + ys.length := by simp
 have hown2 : w'.ownsRow B e sz v' (xs ++ ys).length ((xs ++ ys).flatMap cf) := by
  rw [hl, List.flatMap_append]
  exact hown'
 obtain ⟨A', cap', rfl, hF'⟩ := FreshA.of_own hcf hown2
 have hb : ∀ (A : Option Addr) (n c : Nat), (Value.slice A n c).ownBlock = blkO A := fun A n c => by cases A <;> rfl
 rw [hb] at hg
 rw [hb, hb] at hat
 have := h A' cap' w' hF' hg hat
 rw [hl]
 exact this
theorem wpList_pushes {P : Program} {ops : Array Oper} {rest : List Oper} {o : Oper} {a : Act} {Q : Exit → Act → World → Prop} (hgd : o.guard = none) (s x : Operand) (t : TypeId)
  (ho : o.op = .call { callee := .builtin .append, args := #[s, x], argTypes := #[t, t] })
  (e : TypeId) (i : TypeInfo) (z : Value) (bytes : Nat) (ht : P.underlying t = some (.slice e)) (hi : P.info? e = some i) (hz : i.zero = some z)
  (hsize : i.size = sz) (hby : i.bytes = bytes) (hzs : z.cells.size = sz) (hsz : 0 < sz) (hcf : ∀ x, (cf x).length = sz) (hone : ∀ x, ∀ u ∈ cf x, u.oneCell' = true)
  (n : Nat) (hn : xs.length = n) (hs : a.eval s = .slice A n cap) (hF : FreshA cf sz e B w A cap xs)
  (ys : List α) (m : Nat) (hm : ys.length = m) (ga oa c : Nat) (hx : a.eval x = .slice (some ⟨ga, oa, none⟩) m c) (hnews : ∀ i (hi : i < ys.length) j u, (cf ys[i])[j]? = some u → w.cell? ⟨ga, oa + i * sz + j, none⟩ = some u)
  (h63 : n + m ≤ maxLen) (hbytes : (n + m) * bytes ≤ 140737488355328) (hbase : B ≤ w.heap.size)
  (h : ∀ A' cap' w', FreshA cf sz e B w' A' cap' (xs ++ ys) → w.grownBy w' (blkO A) → (blkO A' = blkO A ∨ blkO A' = some w.heap.size) → wpList P ops Q rest (a.put o.dst (.slice A' (n + m) cap')) w') : wpList P ops Q (o :: rest) a w :=
 wpList_plain hgd fun _ hK => wp_pushes s x t ho e i z bytes ht hi hz hsize hby hzs hsz hcf hone n hn hs hF ys m hm ga oa c hx hnews h63 hbytes hbase fun A' cap' w' h1 h2 h3 => hK _ _ (h A' cap' w' h1 h2 h3)
/-- an element is written -/
theorem OwnS.put {y : α} {k : Nat} (hcf : ∀ x, (cf x).length = sz) (h : OwnS cf sz T w g cap xs) (hk : k < xs.length) : OwnS cf sz T (stores w g (k * sz) (cf y)) g cap (xs.set k y) := by
 obtain ⟨cur, h1, h2, h3, h4, h5⟩ := h
 have hroom : (k + 1) * sz ≤ cap * sz := Nat.mul_le_mul_right sz (by omega)
 rw [Nat.succ_mul] at hroom
 obtain ⟨cur', e1, e2, e3⟩ := stores_heap (T := T) (cf y) w (k * sz) cur h1 (by rw [hcf]; omega)
 refine ⟨cur', e1, e2.trans h2, by simpa using h3, h4, fun i z hz j v hv => ?_⟩
 have hj := lt_of_cf hcf hv
 rw [e3, hcf]
 rw [List.getElem?_set] at hz
 split at hz
 ·rename_i hi
  subst hi
  simp only [hk, if_true, Option.some.injEq] at hz
  subst hz
  rw [if_pos (by omega), Nat.add_sub_cancel_left]
  exact hv
 ·rename_i hi
  rw [if_neg ?_]
  ·exact h5 i z hz j v hv
  ·intro hc
   rcases Nat.lt_or_gt_of_ne hi with hlt | hgt
   ·have : (k + 1) * sz ≤ i * sz := Nat.mul_le_mul_right sz hlt
    rw [Nat.succ_mul] at this
    omega
   ·have : (i + 1) * sz ≤ k * sz := Nat.mul_le_mul_right sz hgt
    rw [Nat.succ_mul] at this
    omega
/-- one cell of an element is written -/
theorem OwnS.put1 {y : α} {k j : Nat} {v : Value} (hcf : ∀ x, (cf x).length = sz) (h : OwnS cf sz T w g cap xs) (hk : k < xs.length) (hj : j < sz) (hy : cf y = (cf xs[k]).set j v) : OwnS cf sz T (w.setCell ⟨g, k * sz + j, none⟩ v) g cap (xs.set k y) := by
 obtain ⟨cur, h1, h2, h3, h4, h5⟩ := h
 have hroom : (k + 1) * sz ≤ cap * sz := Nat.mul_le_mul_right sz (by omega)
 rw [Nat.succ_mul] at hroom
 refine ⟨cur.setIfInBounds (k * sz + j) v, heap_setCell_self h1 _ _, by simpa using h2, by simpa using h3, h4, fun i z hz p u hu => ?_⟩
 have hp := lt_of_cf hcf hu
 rw [List.getElem?_set] at hz
 rw [Array.getElem?_setIfInBounds]
 split at hz
 ·rename_i hi
  subst hi
  simp only [hk, if_true, Option.some.injEq] at hz
  subst hz
  rw [hy, List.getElem?_set] at hu
  by_cases hpj : j = p
  ·subst hpj
   rw [if_pos rfl, if_pos (by omega)]
   rw [if_pos rfl, hcf, if_pos hp] at hu
   exact hu
  ·rw [if_neg (by omega)]
   rw [if_neg hpj] at hu
   exact h5 k _ (List.getElem?_eq_getElem hk) p u hu
 ·rename_i hi
  rw [if_neg ?_]
  ·exact h5 i z hz p u hu
  ·intro hc
   rcases Nat.lt_or_gt_of_ne hi with hlt | hgt
   ·have : (k + 1) * sz ≤ i * sz := Nat.mul_le_mul_right sz hlt
    rw [Nat.succ_mul] at this
    omega
   ·have : (i + 1) * sz ≤ k * sz := Nat.mul_le_mul_right sz hgt
    rw [Nat.succ_mul] at this
    omega
theorem FreshA.row (h : FreshA cf sz T B w A cap xs) (hne : 0 < xs.length) : ∃ g, A = some ⟨g, 0, none⟩ ∧ B ≤ g ∧ OwnS cf sz T w g cap xs := by
 rcases h with ⟨_, rfl, _⟩ | h
 ·simp at hne
 ·exact h
end

end Go.Proofs.Yteciijnpfapmhaa
namespace Go.Proofs.Yteciijnpfapmhaa
set_option linter.unusedSimpArgs false
set_option linter.unusedVariables false
open Go.RowKit

theorem CurS.new {w W : World} {g cap : Nat} {A : Option Addr} {cs : List Int} {T : TypeId} (hr : Rds cB 1 w A cs) (hb : Below w.heap.size w W) (hg : g = W.heap.size) : CurS (W.alloc (.cells #[.slice A cs.length cap, .int .i64 0, .int .u64 0] T)) g A cs cap 0 := by
 subst hg
 have hh := heap_alloc_new W (.cells #[.slice A cs.length cap, .int .i64 0, .int .u64 0] T)
 have hc : ∀ o, (W.alloc (.cells #[.slice A cs.length cap, .int .i64 0, .int .u64 0] T)).cell? ⟨W.heap.size, o, none⟩ = (#[Value.slice A cs.length cap, .int .i64 0, .int .u64 0] : Array Value)[o]? := fun o => Fresh.cell hh o
 refine ⟨⟨by simp, by rw [hc]; rfl, ⟨0, by omega, by omega, by rw [hc]; rfl⟩, ⟨0, by rw [hc]; rfl⟩, fun o => Fresh.froz hh o⟩, ?_⟩
 intro i x hx
 obtain ⟨b, off, hA, hlt, hcc⟩ := hr i x hx
 have hs := hb.size
 refine ⟨b, off, hA, by omega, fun j v hv => ?_⟩
 have h2 : Below w.heap.size w (W.alloc (.cells #[.slice A cs.length cap, .int .i64 0, .int .u64 0] T)) := hb.alloc (by omega) _
 exact (h2.cell (p := ⟨b, off + i * 1 + j, none⟩) hlt).trans (hcc j v hv)
theorem below_row {B b : Nat} {a w w' : World} (h : Below B a w) (hg : w.grownBy w' (some b)) (hb : B ≤ b) (hB : B ≤ w.heap.size) : Below B a w' := h.grown hg hB fun k hk => by cases hk; exact hb

end Go.Proofs.Yteciijnpfapmhaa
namespace Go.Proofs.Yteciijnpfapmhaa
set_option linter.unusedSimpArgs false
set_option linter.unusedVariables false
open Go.RowKit

def FS50_6 (d : Int) (wr : World) (x y : Int × Int) (bx ox k n0 cap : Nat) (w W0 : World) (iq : Nat) (v : Value) (w1 : World) : Prop := match iq with
 | 0 => v = .pointer (some ⟨w.heap.size, 1, none⟩)
 | 1 => v = .slice (some ⟨bx, ox, none⟩) n0 cap
 | 2 => v = .int .i64 (0)
 | 3 => v = .pointer (some ⟨bx, ox + 0 * 2, none⟩)
 | 4 => v = .agg #[.int .i64 (x.1), .int .i64 (x.2)]
 | 5 => v = .bool (true)
 | 6 => v = .bool (false)
 | 7 => v = .bool (false)
 | 8 => v = .int .i64 (0)
 | 9 => v = .bool (false)
 | 10 => v = .bool (false)
 | 11 => v = undef
 | 12 => v = undef
 | 13 => v = undef
 | 14 => v = undef
 | 15 => v = undef
 | 16 => v = undef
 | 17 => v = undef
 | 18 => v = undef
 | 19 => v = undef
 | 20 => v = undef
 | 21 => v = undef
 | 22 => v = undef
 | 23 => v = undef
 | 24 => v = undef
 | 25 => v = .bool (false)
 | 26 => v = .bool (false)
 | _ => True

def FS50_6_7 (d : Int) (wr : World) (x y : Int × Int) (bx ox k n0 cap : Nat) (w W0 : World) (iq : Nat) (v : Value) (w1 : World) : Prop := match iq with
 | 0 => v = .pointer (some ⟨w.heap.size, 1, none⟩)
 | 1 => v = .slice (some ⟨bx, ox, none⟩) n0 cap
 | 2 => v = .int .i64 (0)
 | 3 => v = .pointer (some ⟨bx, ox + 0 * 2, none⟩)
 | 4 => v = .agg #[.int .i64 (x.1), .int .i64 (x.2)]
 | 5 => v = .bool (false)
 | 6 => v = .bool (true)
 | 7 => v = .bool (true)
 | 8 => v = undef
 | 9 => v = undef
 | 10 => v = undef
 | 11 => v = undef
 | 12 => v = undef
 | 13 => v = undef
 | 14 => v = undef
 | 15 => v = undef
 | 16 => v = undef
 | 17 => v = undef
 | 18 => v = undef
 | 19 => v = undef
 | 20 => v = undef
 | 21 => v = undef
 | 22 => v = undef
 | 23 => v = undef
 | 24 => v = undef
 | 25 => v = undef
 | 26 => v = .bool (true)
 | _ => True

def FS50_6_8 (d : Int) (wr : World) (x y : Int × Int) (bx ox k n0 cap : Nat) (w W0 : World) (iq : Nat) (v : Value) (w1 : World) : Prop := match iq with
 | 0 => v = .pointer (some ⟨w.heap.size, 1, none⟩)
 | 1 => v = .slice (some ⟨bx, ox, none⟩) n0 cap
 | 2 => v = .int .i64 (k + 1)
 | 3 => v = .pointer (some ⟨bx, ox + (k + 1) * 2, none⟩)
 | 4 => v = .agg #[.int .i64 (x.1), .int .i64 (x.2)]
 | 5 => v = .bool (false)
 | 6 => v = .bool (true)
 | 7 => v = .bool (true)
 | 8 => v = undef
 | 9 => v = undef
 | 10 => v = undef
 | 11 => v = undef
 | 12 => v = undef
 | 13 => v = undef
 | 14 => v = undef
 | 15 => v = undef
 | 16 => v = undef
 | 17 => v = undef
 | 18 => v = undef
 | 19 => v = undef
 | 20 => v = undef
 | 21 => v = undef
 | 22 => v = undef
 | 23 => v = undef
 | 24 => v = undef
 | 25 => v = undef
 | 26 => v = .bool (true)
 | _ => True

def FS50_6_9 (d : Int) (wr : World) (x y : Int × Int) (bx ox k n0 cap : Nat) (w W0 : World) (iq : Nat) (v : Value) (w1 : World) : Prop := match iq with
 | 0 => v = .pointer (some ⟨w.heap.size, 1, none⟩)
 | 1 => v = .slice (some ⟨bx, ox, none⟩) n0 cap
 | 2 => v = .int .i64 (k + 1)
 | 3 => v = .pointer (some ⟨bx, ox + (k + 1) * 2, none⟩)
 | 4 => v = .agg #[.int .i64 (x.1), .int .i64 (x.2)]
 | 5 => v = .bool (true)
 | 6 => v = .bool (false)
 | 7 => v = .bool (false)
 | 8 => v = .int .i64 (k + 1)
 | 9 => v = .bool (true)
 | 10 => v = .bool (true)
 | 11 => v = .pointer (some ⟨w.heap.size, 1, none⟩)
 | 12 => v = .slice (some ⟨bx, ox, none⟩) n0 cap
 | 13 => v = .int .i64 (k + 1)
 | 14 => v = .int .i64 (k)
 | 15 => v = .pointer (some ⟨bx, ox + k * 2, none⟩)
 | 16 => v = .pointer (some ⟨bx, ox + k * 2 + 1, none⟩)
 | 17 => v = .int .i64 (y.2)
 | 18 => v = .pointer (some ⟨w.heap.size, 1, none⟩)
 | 19 => v = .slice (some ⟨bx, ox, none⟩) n0 cap
 | 20 => v = .int .i64 (k + 1)
 | 21 => v = .pointer (some ⟨bx, ox + (k + 1) * 2, none⟩)
 | 22 => v = .pointer (some ⟨bx, ox + (k + 1) * 2, none⟩)
 | 23 => v = .int .i64 (x.1)
 | 24 => v = .bool (false)
 | 25 => v = .bool (false)
 | 26 => v = .bool (false)
 | _ => True

def FS50_6_10 (d : Int) (wr : World) (x y : Int × Int) (bx ox k n0 cap : Nat) (w W0 : World) (iq : Nat) (v : Value) (w1 : World) : Prop := match iq with
 | 0 => v = .pointer (some ⟨w.heap.size, 1, none⟩)
 | 1 => v = .slice (some ⟨bx, ox, none⟩) n0 cap
 | 2 => v = .int .i64 (k + 1)
 | 3 => v = .pointer (some ⟨bx, ox + (k + 1) * 2, none⟩)
 | 4 => v = .agg #[.int .i64 (x.1), .int .i64 (x.2)]
 | 5 => v = .bool (true)
 | 6 => v = .bool (false)
 | 7 => v = .bool (false)
 | 8 => v = .int .i64 (k + 1)
 | 9 => v = .bool (true)
 | 10 => v = .bool (true)
 | 11 => v = .pointer (some ⟨w.heap.size, 1, none⟩)
 | 12 => v = .slice (some ⟨bx, ox, none⟩) n0 cap
 | 13 => v = .int .i64 (k + 1)
 | 14 => v = .int .i64 (k)
 | 15 => v = .pointer (some ⟨bx, ox + k * 2, none⟩)
 | 16 => v = .pointer (some ⟨bx, ox + k * 2 + 1, none⟩)
 | 17 => v = .int .i64 (y.2)
 | 18 => v = .pointer (some ⟨w.heap.size, 1, none⟩)
 | 19 => v = .slice (some ⟨bx, ox, none⟩) n0 cap
 | 20 => v = .int .i64 (k + 1)
 | 21 => v = .pointer (some ⟨bx, ox + (k + 1) * 2, none⟩)
 | 22 => v = .pointer (some ⟨bx, ox + (k + 1) * 2, none⟩)
 | 23 => v = .int .i64 (x.1)
 | 24 => v = .bool (true)
 | 25 => v = .bool (true)
 | 26 => v = .bool (true)
 | _ => True

set_option maxRecDepth 100000 in
set_option maxHeartbeats 4000000 in
theorem c_spec_l15Good (d : Int) (A : Option Addr) (xs : List (Int × Int)) (cap : Nat) (w : World) (h0 : Rds cIv 2 w A xs) (hn : xs.length ≤ 9223372036854775807) :
  Calls Try.prog 50 #[.agg #[.int .i64 d, .slice A xs.length cap]] w fun e w' => e = .returned (.bool (brB d xs)) ∧ Below w.heap.size w w' := by
 by_cases hs0 : inB d 1 30 = true
 rotate_left
 ·have hn0 : inB d 1 30 = false := Bool.eq_false_iff.2 hs0
  have HV := hid (show brB d xs = false by simp [brB, hn0])
  clear hs0
  go_enter Try.func50, Try.ntmps50
  go_wp2_with (first | (go_at_call 81; refine (c_spec_l1In _ _ _ _ ).mono ?_; rintro e w' ⟨rfl, hb⟩; have hc := cellOf hb; have hf := frozOf hb; have hz := sizeOf hb; try simp at hz))
  all_goals go_ret
  all_goals exact ⟨by first | (rw [HV.out]; done) | (rw [HV.out]; rfl), by (repeat' (first | exact Below.refl _ _ | assumption | refine Below.setCell ?_ ?_ _ | refine Below.drew ?_ | refine Below.alloc ?_ ?_ _ | refine Below.trans ?_ (Below.mono (by assumption) ?_) | (simp; done) | (simp; omega) | omega))⟩
 by_cases hs1 : xs.length ≤ 6
 rotate_left
 ·have HV := hid (show brB d xs = false by simp [brB, vB_long (good := ivOk) (lt := ivLt) (n := 6) (xs := xs) (by omega)])
  go_enter Try.func50, Try.ntmps50
  go_wp2_with (first | (go_at_call 81; refine (c_spec_l1In _ _ _ _ ).mono ?_; rintro e w' ⟨rfl, hb⟩; have hc := cellOf hb; have hf := frozOf hb; have hz := sizeOf hb; try simp at hz))
  all_goals go_ret
  all_goals exact ⟨by first | (rw [HV.out]; done) | (rw [HV.out]; rfl), by (repeat' (first | exact Below.refl _ _ | assumption | refine Below.setCell ?_ ?_ _ | refine Below.drew ?_ | refine Below.alloc ?_ ?_ _ | refine Below.trans ?_ (Below.mono (by assumption) ?_) | (simp; done) | (simp; omega) | omega))⟩
 go_enter Try.func50, Try.ntmps50
 go_wp2_with (first | (go_at_call 81; refine (c_spec_l1In _ _ _ _ ).mono ?_; rintro e w' ⟨rfl, hb⟩; have hc := cellOf hb; have hf := frozOf hb; have hz := sizeOf hb; try simp at hz))
 go_loopw [3] (fun i wr => ∃ k : Nat, k ≤ xs.length ∧ i = .int .i64 k ∧ (∀ j, j < k → vAt ivOk ivLt xs j = true) ∧ wr.cell? ⟨w.heap.size, 0, none⟩ = some (.int .i64 d) ∧ wr.cell? ⟨w.heap.size, 1, none⟩ = some (.slice A xs.length cap) ∧ w.heap.size + 1 ≤ wr.heap.size ∧ Below w.heap.size w wr) (fun i _ => xs.length - (intOf i).toNat)
 case atStart =>
  refine ⟨0, Nat.zero_le _, rfl, fun j hj => absurd hj (Nat.not_lt_zero j), ?_, ?_, ?_, by (repeat' (first | exact Below.refl _ _ | assumption | refine Below.setCell ?_ ?_ _ | refine Below.drew ?_ | refine Below.alloc ?_ ?_ _ | refine Below.trans ?_ (Below.mono (by assumption) ?_) | (simp; done) | (simp; omega) | omega))⟩
  all_goals first | (simp [go_sem, ↓IntWalk.iteOmega, *]; done) | (simp at *; omega)
 case round =>
  obtain ⟨k, hk, rfl, hl, hp0, hp1, hzz, hbr⟩ := hrel
  have hc := cellOf hbr
  have hf := frozOf hbr
  have hz := sizeOf hbr
  by_cases hlt : k < xs.length
  ·obtain ⟨bx, ox, rfl, hbx, hcx⟩ := Rds.all h0 (by omega)
   have hp0' : far wr w.heap.size 0 = _ := hp0
   have hp1' : far wr w.heap.size 1 = _ := hp1
   have HB := hid (vB_bad (good := ivOk) (lt := ivLt) (n := 6) hlt)
   have HL := hid hl
   clear hl h0
   cases k with
   | zero =>
    have HV := hid (vAt_zero (good := ivOk) (lt := ivLt) hlt)
    have hx0 := hcx 0 hlt 0 _ rfl
    have hx1 := hcx 0 hlt 1 _ rfl
    simp only [Nat.zero_mul, Nat.add_zero] at hx0 hx1
    clear hcx
    generalize xs[0] = x at *
    by_cases hg : ivOk x = true
    ·have HG := hid hg
     simp only [ivOk] at hg
     go_wp2_with (fail)
     refine wp_region_w (n := 27) [] [] (FS50_6 d wr x x bx ox 0 xs.length cap w) rfl (by kernel_rfl) (fun _ _ d _ _ h => by cases d <;> exact h) ?_ ?_ ?_ ?_ ?_ ?_
     ·intro iq
      match iq with
      | 0 | 1 | 2 | 3 | 4 | 5 | 6 | 7 | 8 | 9 | 10 | 11 | 12 | 13 | 14 | 15 | 16 | 17 | 18 | 19 | 20 | 21 | 22 | 23 | 24 | 25 | 26 => exact Stable.const _
      | n + 27 => exact Stable.const _
     ·intro iq hi
      exact absurd hi (by simp)
     ·intro iq hi
      exact absurd hi (by simp)
     ·intro iq o hi hl ho vals w1 hb1 hf
      exact absurd hl (by simp)
     ·intro iq o hi hl ho vals w1 hb1 hf
      match iq, hi with
      | 0, _ =>
       injection ho with ho
       subst ho
       clear hl
       simp only [fillA, List.take, List.drop, put_none, Act.put, List.setIfInBounds_toArray, List.set_cons_zero, List.set_cons_succ, Nat.reduceAdd]
       clear hf
       go_wp2_with (fail)
       exact RQ.mk rfl ⟨(by first | rfl | (simp [FS50_6]; done) | (simp [FS50_6, *]; done) | (simp [FS50_6, gotV]; done) | (simp [FS50_6, gotV]; omega)), fun h => absurd h (by decide)⟩ (Below.refl _ _)
      | 1, _ =>
       injection ho with ho
       subst ho
       clear hl
       simp only [fillA, List.take, List.drop, put_none, Act.put, List.setIfInBounds_toArray, List.set_cons_zero, List.set_cons_succ, Nat.reduceAdd]
       have f0 := hf 0 (by decide) (by kernel_rfl)
       generalize vals 0 = v0 at *
       subst f0
       clear hf
       have hc1 := cellOf hb1
       have hf1 := frozOf hb1
       have hz1 := sizeOf hb1
       try simp at hz1
       go_wp2_with (fail)
       exact RQ.mk rfl ⟨(by first | rfl | (simp [FS50_6]; done) | (simp [FS50_6, *]; done) | (simp [FS50_6, gotV]; done) | (simp [FS50_6, gotV]; omega)), fun h => absurd h (by decide)⟩ (Below.refl _ _)
      | 2, _ =>
       injection ho with ho
       subst ho
       clear hl
       simp only [fillA, List.take, List.drop, put_none, Act.put, List.setIfInBounds_toArray, List.set_cons_zero, List.set_cons_succ, Nat.reduceAdd]
       clear hf
       go_wp2_with (fail)
       exact RQ.mk rfl ⟨(by first | rfl | (simp [FS50_6]; done) | (simp [FS50_6, *]; done) | (simp [FS50_6, gotV]; done) | (simp [FS50_6, gotV]; omega)), fun h => absurd h (by decide)⟩ (Below.refl _ _)
      | 3, _ =>
       injection ho with ho
       subst ho
       clear hl
       simp only [fillA, List.take, List.drop, put_none, Act.put, List.setIfInBounds_toArray, List.set_cons_zero, List.set_cons_succ, Nat.reduceAdd]
       have f1 := hf 1 (by decide) (by kernel_rfl)
       generalize vals 1 = v1 at *
       subst f1
       have f2 := hf 2 (by decide) (by kernel_rfl)
       generalize vals 2 = v2 at *
       subst f2
       clear hf
       go_wp2_with (fail)
       exact RQ.mk rfl ⟨(by first | rfl | (simp [FS50_6]; done) | (simp [FS50_6, *]; done) | (simp [FS50_6, gotV]; done) | (simp [FS50_6, gotV]; omega)), fun h => absurd h (by decide)⟩ (Below.refl _ _)
      | 4, _ =>
       injection ho with ho
       subst ho
       clear hl
       simp only [fillA, List.take, List.drop, put_none, Act.put, List.setIfInBounds_toArray, List.set_cons_zero, List.set_cons_succ, Nat.reduceAdd]
       have f3 := hf 3 (by decide) (by kernel_rfl)
       generalize vals 3 = v3 at *
       subst f3
       clear hf
       have hc1 := cellOf hb1
       have hf1 := frozOf hb1
       have hz1 := sizeOf hb1
       try simp at hz1
       go_wp2_with (fail)
       exact RQ.mk rfl ⟨(by first | rfl | (simp [FS50_6]; done) | (simp [FS50_6, *]; done) | (simp [FS50_6, gotV]; done) | (simp [FS50_6, gotV]; omega)), fun h => absurd h (by decide)⟩ (Below.refl _ _)
      | 5, _ =>
       injection ho with ho
       subst ho
       clear hl
       simp only [fillA, List.take, List.drop, put_none, Act.put, List.setIfInBounds_toArray, List.set_cons_zero, List.set_cons_succ, Nat.reduceAdd]
       have f4 := hf 4 (by decide) (by kernel_rfl)
       generalize vals 4 = v4 at *
       subst f4
       clear hf
       have hc1 := cellOf hb1
       have hf1 := frozOf hb1
       have hz1 := sizeOf hb1
       try simp at hz1
       go_wp2_with (first | (go_at_call 82; refine (c_spec_l13Good _ _ _ ).mono ?_; rintro e w' ⟨rfl, hb⟩; have hc := cellOf hb; have hf := frozOf hb; have hz := sizeOf hb; try simp at hz))
       exact RQ.mk rfl ⟨(by first | rfl | (simp [FS50_6]; done) | (simp [FS50_6, *]; done) | (simp [FS50_6, gotV]; done) | (simp [FS50_6, gotV]; omega)), fun h => absurd h (by decide)⟩ (by (repeat' (first | exact Below.refl _ _ | assumption | refine Below.setCell ?_ ?_ _ | refine Below.drew ?_ | refine Below.alloc ?_ ?_ _ | refine Below.trans ?_ (Below.mono (by assumption) ?_) | (simp; done) | (simp; omega) | omega)))
      | 6, _ =>
       injection ho with ho
       subst ho
       clear hl
       simp only [fillA, List.take, List.drop, put_none, Act.put, List.setIfInBounds_toArray, List.set_cons_zero, List.set_cons_succ, Nat.reduceAdd]
       have f5 := hf 5 (by decide) (by kernel_rfl)
       generalize vals 5 = v5 at *
       subst f5
       clear hf
       go_wp2_with (fail)
       exact RQ.mk rfl ⟨(by first | rfl | (simp [FS50_6]; done) | (simp [FS50_6, *]; done) | (simp [FS50_6, gotV]; done) | (simp [FS50_6, gotV]; omega)), fun h => absurd h (by decide)⟩ (Below.refl _ _)
      | 7, _ =>
       injection ho with ho
       subst ho
       clear hl
       simp only [fillA, List.take, List.drop, put_none, Act.put, List.setIfInBounds_toArray, List.set_cons_zero, List.set_cons_succ, Nat.reduceAdd]
       have f6 := hf 6 (by decide) (by kernel_rfl)
       generalize vals 6 = v6 at *
       subst f6
       have f5 := hf 5 (by decide) (by kernel_rfl)
       generalize vals 5 = v5 at *
       subst f5
       clear hf
       go_wp2_with (fail)
       exact RQ.mk rfl ⟨(by first | rfl | (simp [FS50_6]; done) | (simp [FS50_6, *]; done) | (simp [FS50_6, gotV]; done) | (simp [FS50_6, gotV]; omega)), fun h => absurd h (by decide)⟩ (Below.refl _ _)
      | 8, _ =>
       injection ho with ho
       subst ho
       clear hl
       simp only [fillA, List.take, List.drop, put_none, Act.put, List.setIfInBounds_toArray, List.set_cons_zero, List.set_cons_succ, Nat.reduceAdd]
       have f7 := hf 7 (by decide) (by kernel_rfl)
       generalize vals 7 = v7 at *
       subst f7
       clear hf
       go_wp2_with (fail)
       exact RQ.mk rfl ⟨(by first | rfl | (simp [FS50_6]; done) | (simp [FS50_6, *]; done) | (simp [FS50_6, gotV]; done) | (simp [FS50_6, gotV]; omega)), fun h => absurd h (by decide)⟩ (Below.refl _ _)
      | 9, _ =>
       injection ho with ho
       subst ho
       clear hl
       simp only [fillA, List.take, List.drop, put_none, Act.put, List.setIfInBounds_toArray, List.set_cons_zero, List.set_cons_succ, Nat.reduceAdd]
       have f8 := hf 8 (by decide) (by kernel_rfl)
       generalize vals 8 = v8 at *
       subst f8
       have f7 := hf 7 (by decide) (by kernel_rfl)
       generalize vals 7 = v7 at *
       subst f7
       clear hf
       go_wp2_with (fail)
       exact RQ.mk rfl ⟨(by first | rfl | (simp [FS50_6]; done) | (simp [FS50_6, *]; done) | (simp [FS50_6, gotV]; done) | (simp [FS50_6, gotV]; omega)), fun h => absurd h (by decide)⟩ (Below.refl _ _)
      | 10, _ =>
       injection ho with ho
       subst ho
       clear hl
       simp only [fillA, List.take, List.drop, put_none, Act.put, List.setIfInBounds_toArray, List.set_cons_zero, List.set_cons_succ, Nat.reduceAdd]
       have f9 := hf 9 (by decide) (by kernel_rfl)
       generalize vals 9 = v9 at *
       subst f9
       have f7 := hf 7 (by decide) (by kernel_rfl)
       generalize vals 7 = v7 at *
       subst f7
       clear hf
       go_wp2_with (fail)
       exact RQ.mk rfl ⟨(by first | rfl | (simp [FS50_6]; done) | (simp [FS50_6, *]; done) | (simp [FS50_6, gotV]; done) | (simp [FS50_6, gotV]; omega)), fun h => absurd h (by decide)⟩ (Below.refl _ _)
      | 11, _ =>
       injection ho with ho
       subst ho
       clear hl
       simp only [fillA, List.take, List.drop, put_none, Act.put, List.setIfInBounds_toArray, List.set_cons_zero, List.set_cons_succ, Nat.reduceAdd]
       have f10 := hf 10 (by decide) (by kernel_rfl)
       generalize vals 10 = v10 at *
       subst f10
       clear hf
       go_wp2_with (fail)
       exact RQ.mk rfl ⟨(by first | rfl | (simp [FS50_6]; done) | (simp [FS50_6, *]; done) | (simp [FS50_6, gotV]; done) | (simp [FS50_6, gotV]; omega)), fun h => absurd h (by decide)⟩ (Below.refl _ _)
      | 12, _ =>
       injection ho with ho
       subst ho
       clear hl
       simp only [fillA, List.take, List.drop, put_none, Act.put, List.setIfInBounds_toArray, List.set_cons_zero, List.set_cons_succ, Nat.reduceAdd]
       have f11 := hf 11 (by decide) (by kernel_rfl)
       generalize vals 11 = v11 at *
       subst f11
       have f10 := hf 10 (by decide) (by kernel_rfl)
       generalize vals 10 = v10 at *
       subst f10
       clear hf
       go_wp2_with (fail)
       exact RQ.mk rfl ⟨(by first | rfl | (simp [FS50_6]; done) | (simp [FS50_6, *]; done) | (simp [FS50_6, gotV]; done) | (simp [FS50_6, gotV]; omega)), fun h => absurd h (by decide)⟩ (Below.refl _ _)
      | 13, _ =>
       injection ho with ho
       subst ho
       clear hl
       simp only [fillA, List.take, List.drop, put_none, Act.put, List.setIfInBounds_toArray, List.set_cons_zero, List.set_cons_succ, Nat.reduceAdd]
       have f10 := hf 10 (by decide) (by kernel_rfl)
       generalize vals 10 = v10 at *
       subst f10
       clear hf
       go_wp2_with (fail)
       exact RQ.mk rfl ⟨(by first | rfl | (simp [FS50_6]; done) | (simp [FS50_6, *]; done) | (simp [FS50_6, gotV]; done) | (simp [FS50_6, gotV]; omega)), fun h => absurd h (by decide)⟩ (Below.refl _ _)
      | 14, _ =>
       injection ho with ho
       subst ho
       clear hl
       simp only [fillA, List.take, List.drop, put_none, Act.put, List.setIfInBounds_toArray, List.set_cons_zero, List.set_cons_succ, Nat.reduceAdd]
       have f13 := hf 13 (by decide) (by kernel_rfl)
       generalize vals 13 = v13 at *
       subst f13
       have f10 := hf 10 (by decide) (by kernel_rfl)
       generalize vals 10 = v10 at *
       subst f10
       clear hf
       go_wp2_with (fail)
       exact RQ.mk rfl ⟨(by first | rfl | (simp [FS50_6]; done) | (simp [FS50_6, *]; done) | (simp [FS50_6, gotV]; done) | (simp [FS50_6, gotV]; omega)), fun h => absurd h (by decide)⟩ (Below.refl _ _)
      | 15, _ =>
       injection ho with ho
       subst ho
       clear hl
       simp only [fillA, List.take, List.drop, put_none, Act.put, List.setIfInBounds_toArray, List.set_cons_zero, List.set_cons_succ, Nat.reduceAdd]
       have f12 := hf 12 (by decide) (by kernel_rfl)
       generalize vals 12 = v12 at *
       subst f12
       have f14 := hf 14 (by decide) (by kernel_rfl)
       generalize vals 14 = v14 at *
       subst f14
       have f10 := hf 10 (by decide) (by kernel_rfl)
       generalize vals 10 = v10 at *
       subst f10
       clear hf
       go_wp2_with (fail)
       exact RQ.mk rfl ⟨(by first | rfl | (simp [FS50_6]; done) | (simp [FS50_6, *]; done) | (simp [FS50_6, gotV]; done) | (simp [FS50_6, gotV]; omega)), fun h => absurd h (by decide)⟩ (Below.refl _ _)
      | 16, _ =>
       injection ho with ho
       subst ho
       clear hl
       simp only [fillA, List.take, List.drop, put_none, Act.put, List.setIfInBounds_toArray, List.set_cons_zero, List.set_cons_succ, Nat.reduceAdd]
       have f15 := hf 15 (by decide) (by kernel_rfl)
       generalize vals 15 = v15 at *
       subst f15
       have f10 := hf 10 (by decide) (by kernel_rfl)
       generalize vals 10 = v10 at *
       subst f10
       clear hf
       go_wp2_with (fail)
       exact RQ.mk rfl ⟨(by first | rfl | (simp [FS50_6]; done) | (simp [FS50_6, *]; done) | (simp [FS50_6, gotV]; done) | (simp [FS50_6, gotV]; omega)), fun h => absurd h (by decide)⟩ (Below.refl _ _)
      | 17, _ =>
       injection ho with ho
       subst ho
       clear hl
       simp only [fillA, List.take, List.drop, put_none, Act.put, List.setIfInBounds_toArray, List.set_cons_zero, List.set_cons_succ, Nat.reduceAdd]
       have f16 := hf 16 (by decide) (by kernel_rfl)
       generalize vals 16 = v16 at *
       subst f16
       have f10 := hf 10 (by decide) (by kernel_rfl)
       generalize vals 10 = v10 at *
       subst f10
       clear hf
       go_wp2_with (fail)
       exact RQ.mk rfl ⟨(by first | rfl | (simp [FS50_6]; done) | (simp [FS50_6, *]; done) | (simp [FS50_6, gotV]; done) | (simp [FS50_6, gotV]; omega)), fun h => absurd h (by decide)⟩ (Below.refl _ _)
      | 18, _ =>
       injection ho with ho
       subst ho
       clear hl
       simp only [fillA, List.take, List.drop, put_none, Act.put, List.setIfInBounds_toArray, List.set_cons_zero, List.set_cons_succ, Nat.reduceAdd]
       have f10 := hf 10 (by decide) (by kernel_rfl)
       generalize vals 10 = v10 at *
       subst f10
       clear hf
       go_wp2_with (fail)
       exact RQ.mk rfl ⟨(by first | rfl | (simp [FS50_6]; done) | (simp [FS50_6, *]; done) | (simp [FS50_6, gotV]; done) | (simp [FS50_6, gotV]; omega)), fun h => absurd h (by decide)⟩ (Below.refl _ _)
      | 19, _ =>
       injection ho with ho
       subst ho
       clear hl
       simp only [fillA, List.take, List.drop, put_none, Act.put, List.setIfInBounds_toArray, List.set_cons_zero, List.set_cons_succ, Nat.reduceAdd]
       have f18 := hf 18 (by decide) (by kernel_rfl)
       generalize vals 18 = v18 at *
       subst f18
       have f10 := hf 10 (by decide) (by kernel_rfl)
       generalize vals 10 = v10 at *
       subst f10
       clear hf
       go_wp2_with (fail)
       exact RQ.mk rfl ⟨(by first | rfl | (simp [FS50_6]; done) | (simp [FS50_6, *]; done) | (simp [FS50_6, gotV]; done) | (simp [FS50_6, gotV]; omega)), fun h => absurd h (by decide)⟩ (Below.refl _ _)
      | 20, _ =>
       injection ho with ho
       subst ho
       clear hl
       simp only [fillA, List.take, List.drop, put_none, Act.put, List.setIfInBounds_toArray, List.set_cons_zero, List.set_cons_succ, Nat.reduceAdd]
       have f10 := hf 10 (by decide) (by kernel_rfl)
       generalize vals 10 = v10 at *
       subst f10
       clear hf
       go_wp2_with (fail)
       exact RQ.mk rfl ⟨(by first | rfl | (simp [FS50_6]; done) | (simp [FS50_6, *]; done) | (simp [FS50_6, gotV]; done) | (simp [FS50_6, gotV]; omega)), fun h => absurd h (by decide)⟩ (Below.refl _ _)
      | 21, _ =>
       injection ho with ho
       subst ho
       clear hl
       simp only [fillA, List.take, List.drop, put_none, Act.put, List.setIfInBounds_toArray, List.set_cons_zero, List.set_cons_succ, Nat.reduceAdd]
       have f19 := hf 19 (by decide) (by kernel_rfl)
       generalize vals 19 = v19 at *
       subst f19
       have f20 := hf 20 (by decide) (by kernel_rfl)
       generalize vals 20 = v20 at *
       subst f20
       have f10 := hf 10 (by decide) (by kernel_rfl)
       generalize vals 10 = v10 at *
       subst f10
       clear hf
       go_wp2_with (fail)
       exact RQ.mk rfl ⟨(by first | rfl | (simp [FS50_6]; done) | (simp [FS50_6, *]; done) | (simp [FS50_6, gotV]; done) | (simp [FS50_6, gotV]; omega)), fun h => absurd h (by decide)⟩ (Below.refl _ _)
      | 22, _ =>
       injection ho with ho
       subst ho
       clear hl
       simp only [fillA, List.take, List.drop, put_none, Act.put, List.setIfInBounds_toArray, List.set_cons_zero, List.set_cons_succ, Nat.reduceAdd]
       have f21 := hf 21 (by decide) (by kernel_rfl)
       generalize vals 21 = v21 at *
       subst f21
       have f10 := hf 10 (by decide) (by kernel_rfl)
       generalize vals 10 = v10 at *
       subst f10
       clear hf
       go_wp2_with (fail)
       exact RQ.mk rfl ⟨(by first | rfl | (simp [FS50_6]; done) | (simp [FS50_6, *]; done) | (simp [FS50_6, gotV]; done) | (simp [FS50_6, gotV]; omega)), fun h => absurd h (by decide)⟩ (Below.refl _ _)
      | 23, _ =>
       injection ho with ho
       subst ho
       clear hl
       simp only [fillA, List.take, List.drop, put_none, Act.put, List.setIfInBounds_toArray, List.set_cons_zero, List.set_cons_succ, Nat.reduceAdd]
       have f22 := hf 22 (by decide) (by kernel_rfl)
       generalize vals 22 = v22 at *
       subst f22
       have f10 := hf 10 (by decide) (by kernel_rfl)
       generalize vals 10 = v10 at *
       subst f10
       clear hf
       go_wp2_with (fail)
       exact RQ.mk rfl ⟨(by first | rfl | (simp [FS50_6]; done) | (simp [FS50_6, *]; done) | (simp [FS50_6, gotV]; done) | (simp [FS50_6, gotV]; omega)), fun h => absurd h (by decide)⟩ (Below.refl _ _)
      | 24, _ =>
       injection ho with ho
       subst ho
       clear hl
       simp only [fillA, List.take, List.drop, put_none, Act.put, List.setIfInBounds_toArray, List.set_cons_zero, List.set_cons_succ, Nat.reduceAdd]
       have f17 := hf 17 (by decide) (by kernel_rfl)
       generalize vals 17 = v17 at *
       subst f17
       have f23 := hf 23 (by decide) (by kernel_rfl)
       generalize vals 23 = v23 at *
       subst f23
       have f10 := hf 10 (by decide) (by kernel_rfl)
       generalize vals 10 = v10 at *
       subst f10
       clear hf
       go_wp2_with (fail)
       exact RQ.mk rfl ⟨(by first | rfl | (simp [FS50_6]; done) | (simp [FS50_6, *]; done) | (simp [FS50_6, gotV]; done) | (simp [FS50_6, gotV]; omega)), fun h => absurd h (by decide)⟩ (Below.refl _ _)
      | 25, _ =>
       injection ho with ho
       subst ho
       clear hl
       simp only [fillA, List.take, List.drop, put_none, Act.put, List.setIfInBounds_toArray, List.set_cons_zero, List.set_cons_succ, Nat.reduceAdd]
       have f10 := hf 10 (by decide) (by kernel_rfl)
       generalize vals 10 = v10 at *
       subst f10
       have f24 := hf 24 (by decide) (by kernel_rfl)
       generalize vals 24 = v24 at *
       subst f24
       have f7 := hf 7 (by decide) (by kernel_rfl)
       generalize vals 7 = v7 at *
       subst f7
       clear hf
       go_wp2_with (fail)
       exact RQ.mk rfl ⟨(by first | rfl | (simp [FS50_6]; done) | (simp [FS50_6, *]; done) | (simp [FS50_6, gotV]; done) | (simp [FS50_6, gotV]; omega)), fun h => absurd h (by decide)⟩ (Below.refl _ _)
      | 26, _ =>
       injection ho with ho
       subst ho
       clear hl
       simp only [fillA, List.take, List.drop, put_none, Act.put, List.setIfInBounds_toArray, List.set_cons_zero, List.set_cons_succ, Nat.reduceAdd]
       have f7 := hf 7 (by decide) (by kernel_rfl)
       generalize vals 7 = v7 at *
       subst f7
       have f25 := hf 25 (by decide) (by kernel_rfl)
       generalize vals 25 = v25 at *
       subst f25
       clear hf
       go_wp2_with (fail)
       exact RQ.mk rfl ⟨(by first | rfl | (simp [FS50_6]; done) | (simp [FS50_6, *]; done) | (simp [FS50_6, gotV]; done) | (simp [FS50_6, gotV]; omega)), fun h => absurd h (by decide)⟩ (Below.refl _ _)
      | m + 27, h => exact absurd h (by omega)
     ·intro vals w1 hb1 hf hd
      simp only [fillA, List.take, List.drop, put_none, Act.put, List.setIfInBounds_toArray, List.set_cons_zero, List.set_cons_succ, Nat.reduceAdd]
      clear hd
      have f0 := hf 0 (by decide)
      generalize vals 0 = v0 at *
      subst f0
      have f1 := hf 1 (by decide)
      generalize vals 1 = v1 at *
      subst f1
      have f2 := hf 2 (by decide)
      generalize vals 2 = v2 at *
      subst f2
      have f3 := hf 3 (by decide)
      generalize vals 3 = v3 at *
      subst f3
      have f4 := hf 4 (by decide)
      generalize vals 4 = v4 at *
      subst f4
      have f5 := hf 5 (by decide)
      generalize vals 5 = v5 at *
      subst f5
      have f6 := hf 6 (by decide)
      generalize vals 6 = v6 at *
      subst f6
      have f7 := hf 7 (by decide)
      generalize vals 7 = v7 at *
      subst f7
      have f8 := hf 8 (by decide)
      generalize vals 8 = v8 at *
      subst f8
      have f9 := hf 9 (by decide)
      generalize vals 9 = v9 at *
      subst f9
      have f10 := hf 10 (by decide)
      generalize vals 10 = v10 at *
      subst f10
      have f11 := hf 11 (by decide)
      generalize vals 11 = v11 at *
      subst f11
      have f12 := hf 12 (by decide)
      generalize vals 12 = v12 at *
      subst f12
      have f13 := hf 13 (by decide)
      generalize vals 13 = v13 at *
      subst f13
      have f14 := hf 14 (by decide)
      generalize vals 14 = v14 at *
      subst f14
      have f15 := hf 15 (by decide)
      generalize vals 15 = v15 at *
      subst f15
      have f16 := hf 16 (by decide)
      generalize vals 16 = v16 at *
      subst f16
      have f17 := hf 17 (by decide)
      generalize vals 17 = v17 at *
      subst f17
      have f18 := hf 18 (by decide)
      generalize vals 18 = v18 at *
      subst f18
      have f19 := hf 19 (by decide)
      generalize vals 19 = v19 at *
      subst f19
      have f20 := hf 20 (by decide)
      generalize vals 20 = v20 at *
      subst f20
      have f21 := hf 21 (by decide)
      generalize vals 21 = v21 at *
      subst f21
      have f22 := hf 22 (by decide)
      generalize vals 22 = v22 at *
      subst f22
      have f23 := hf 23 (by decide)
      generalize vals 23 = v23 at *
      subst f23
      have f24 := hf 24 (by decide)
      generalize vals 24 = v24 at *
      subst f24
      have f25 := hf 25 (by decide)
      generalize vals 25 = v25 at *
      subst f25
      have f26 := hf 26 (by decide)
      generalize vals 26 = v26 at *
      subst f26
      clear hf
      have hc1 := cellOf hb1
      have hf1 := frozOf hb1
      have hz1 := sizeOf hb1
      try simp at hz1
      go_wp2_with (fail)
      go_roundw
      case rel =>
       refine ⟨1, by omega, by go_num, fun j hj => ?_, ?_, ?_, ?_, by (repeat' (first | exact Below.refl _ _ | assumption | refine Below.setCell ?_ ?_ _ | refine Below.drew ?_ | refine Below.alloc ?_ ?_ _ | refine Below.trans ?_ (Below.mono (by assumption) ?_) | (simp; done) | (simp; omega) | omega))⟩
       ·obtain rfl : j = 0 := by omega
        rw [HV.out, HG.out]
       all_goals first | (simp [go_sem, ↓IntWalk.iteOmega, *]; done) | (simp [go_sem, ↓IntWalk.iteOmega, *]; omega) | omega
      case measure => simp [intOf]; omega
    ·have HG : Hid (ivOk x = false) := by show _ = _; simpa using hg
     clear hg
     have hg := HG.out
     simp only [ivOk] at hg
     go_wp2_with (fail)
     refine wp_region_w (n := 27) [] [] (FS50_6_7 d wr x x bx ox 0 xs.length cap w) rfl (by kernel_rfl) (fun _ _ d _ _ h => by cases d <;> exact h) ?_ ?_ ?_ ?_ ?_ ?_
     ·intro iq
      match iq with
      | 0 | 1 | 2 | 3 | 4 | 5 | 6 | 7 | 8 | 9 | 10 | 11 | 12 | 13 | 14 | 15 | 16 | 17 | 18 | 19 | 20 | 21 | 22 | 23 | 24 | 25 | 26 => exact Stable.const _
      | n + 27 => exact Stable.const _
     ·intro iq hi
      exact absurd hi (by simp)
     ·intro iq hi
      exact absurd hi (by simp)
     ·intro iq o hi hl ho vals w1 hb1 hf
      exact absurd hl (by simp)
     ·intro iq o hi hl ho vals w1 hb1 hf
      match iq, hi with
      | 0, _ =>
       injection ho with ho
       subst ho
       clear hl
       simp only [fillA, List.take, List.drop, put_none, Act.put, List.setIfInBounds_toArray, List.set_cons_zero, List.set_cons_succ, Nat.reduceAdd]
       clear hf
       go_wp2_with (fail)
       exact RQ.mk rfl ⟨(by first | rfl | (simp [FS50_6_7]; done) | (simp [FS50_6_7, *]; done) | (simp [FS50_6_7, gotV]; done) | (simp [FS50_6_7, gotV]; omega)), fun h => absurd h (by decide)⟩ (Below.refl _ _)
      | 1, _ =>
       injection ho with ho
       subst ho
       clear hl
       simp only [fillA, List.take, List.drop, put_none, Act.put, List.setIfInBounds_toArray, List.set_cons_zero, List.set_cons_succ, Nat.reduceAdd]
       have f0 := hf 0 (by decide) (by kernel_rfl)
       generalize vals 0 = v0 at *
       subst f0
       clear hf
       have hc1 := cellOf hb1
       have hf1 := frozOf hb1
       have hz1 := sizeOf hb1
       try simp at hz1
       go_wp2_with (fail)
       exact RQ.mk rfl ⟨(by first | rfl | (simp [FS50_6_7]; done) | (simp [FS50_6_7, *]; done) | (simp [FS50_6_7, gotV]; done) | (simp [FS50_6_7, gotV]; omega)), fun h => absurd h (by decide)⟩ (Below.refl _ _)
      | 2, _ =>
       injection ho with ho
       subst ho
       clear hl
       simp only [fillA, List.take, List.drop, put_none, Act.put, List.setIfInBounds_toArray, List.set_cons_zero, List.set_cons_succ, Nat.reduceAdd]
       clear hf
       go_wp2_with (fail)
       exact RQ.mk rfl ⟨(by first | rfl | (simp [FS50_6_7]; done) | (simp [FS50_6_7, *]; done) | (simp [FS50_6_7, gotV]; done) | (simp [FS50_6_7, gotV]; omega)), fun h => absurd h (by decide)⟩ (Below.refl _ _)
      | 3, _ =>
       injection ho with ho
       subst ho
       clear hl
       simp only [fillA, List.take, List.drop, put_none, Act.put, List.setIfInBounds_toArray, List.set_cons_zero, List.set_cons_succ, Nat.reduceAdd]
       have f1 := hf 1 (by decide) (by kernel_rfl)
       generalize vals 1 = v1 at *
       subst f1
       have f2 := hf 2 (by decide) (by kernel_rfl)
       generalize vals 2 = v2 at *
       subst f2
       clear hf
       go_wp2_with (fail)
       exact RQ.mk rfl ⟨(by first | rfl | (simp [FS50_6_7]; done) | (simp [FS50_6_7, *]; done) | (simp [FS50_6_7, gotV]; done) | (simp [FS50_6_7, gotV]; omega)), fun h => absurd h (by decide)⟩ (Below.refl _ _)
      | 4, _ =>
       injection ho with ho
       subst ho
       clear hl
       simp only [fillA, List.take, List.drop, put_none, Act.put, List.setIfInBounds_toArray, List.set_cons_zero, List.set_cons_succ, Nat.reduceAdd]
       have f3 := hf 3 (by decide) (by kernel_rfl)
       generalize vals 3 = v3 at *
       subst f3
       clear hf
       have hc1 := cellOf hb1
       have hf1 := frozOf hb1
       have hz1 := sizeOf hb1
       try simp at hz1
       go_wp2_with (fail)
       exact RQ.mk rfl ⟨(by first | rfl | (simp [FS50_6_7]; done) | (simp [FS50_6_7, *]; done) | (simp [FS50_6_7, gotV]; done) | (simp [FS50_6_7, gotV]; omega)), fun h => absurd h (by decide)⟩ (Below.refl _ _)
      | 5, _ =>
       injection ho with ho
       subst ho
       clear hl
       simp only [fillA, List.take, List.drop, put_none, Act.put, List.setIfInBounds_toArray, List.set_cons_zero, List.set_cons_succ, Nat.reduceAdd]
       have f4 := hf 4 (by decide) (by kernel_rfl)
       generalize vals 4 = v4 at *
       subst f4
       clear hf
       have hc1 := cellOf hb1
       have hf1 := frozOf hb1
       have hz1 := sizeOf hb1
       try simp at hz1
       go_wp2_with (first | (go_at_call 82; refine (c_spec_l13Good _ _ _ ).mono ?_; rintro e w' ⟨rfl, hb⟩; have hc := cellOf hb; have hf := frozOf hb; have hz := sizeOf hb; try simp at hz))
       exact RQ.mk rfl ⟨(by first | rfl | (simp [FS50_6_7]; done) | (simp [FS50_6_7, *]; done) | (simp [FS50_6_7, gotV]; done) | (simp [FS50_6_7, gotV]; omega)), fun h => absurd h (by decide)⟩ (by (repeat' (first | exact Below.refl _ _ | assumption | refine Below.setCell ?_ ?_ _ | refine Below.drew ?_ | refine Below.alloc ?_ ?_ _ | refine Below.trans ?_ (Below.mono (by assumption) ?_) | (simp; done) | (simp; omega) | omega)))
      | 6, _ =>
       injection ho with ho
       subst ho
       clear hl
       simp only [fillA, List.take, List.drop, put_none, Act.put, List.setIfInBounds_toArray, List.set_cons_zero, List.set_cons_succ, Nat.reduceAdd]
       have f5 := hf 5 (by decide) (by kernel_rfl)
       generalize vals 5 = v5 at *
       subst f5
       clear hf
       go_wp2_with (fail)
       exact RQ.mk rfl ⟨(by first | rfl | (simp [FS50_6_7]; done) | (simp [FS50_6_7, *]; done) | (simp [FS50_6_7, gotV]; done) | (simp [FS50_6_7, gotV]; omega)), fun h => absurd h (by decide)⟩ (Below.refl _ _)
      | 7, _ =>
       injection ho with ho
       subst ho
       clear hl
       simp only [fillA, List.take, List.drop, put_none, Act.put, List.setIfInBounds_toArray, List.set_cons_zero, List.set_cons_succ, Nat.reduceAdd]
       have f6 := hf 6 (by decide) (by kernel_rfl)
       generalize vals 6 = v6 at *
       subst f6
       have f5 := hf 5 (by decide) (by kernel_rfl)
       generalize vals 5 = v5 at *
       subst f5
       clear hf
       go_wp2_with (fail)
       exact RQ.mk rfl ⟨(by first | rfl | (simp [FS50_6_7]; done) | (simp [FS50_6_7, *]; done) | (simp [FS50_6_7, gotV]; done) | (simp [FS50_6_7, gotV]; omega)), fun h => absurd h (by decide)⟩ (Below.refl _ _)
      | 8, _ =>
       injection ho with ho
       subst ho
       clear hl
       simp only [fillA, List.take, List.drop, put_none, Act.put, List.setIfInBounds_toArray, List.set_cons_zero, List.set_cons_succ, Nat.reduceAdd]
       have f7 := hf 7 (by decide) (by kernel_rfl)
       generalize vals 7 = v7 at *
       subst f7
       clear hf
       go_wp2_with (fail)
       exact RQ.mk rfl ⟨(by first | rfl | (simp [FS50_6_7]; done) | (simp [FS50_6_7, *]; done) | (simp [FS50_6_7, gotV]; done) | (simp [FS50_6_7, gotV]; omega)), fun h => absurd h (by decide)⟩ (Below.refl _ _)
      | 9, _ =>
       injection ho with ho
       subst ho
       clear hl
       simp only [fillA, List.take, List.drop, put_none, Act.put, List.setIfInBounds_toArray, List.set_cons_zero, List.set_cons_succ, Nat.reduceAdd]
       have f8 := hf 8 (by decide) (by kernel_rfl)
       generalize vals 8 = v8 at *
       subst f8
       have f7 := hf 7 (by decide) (by kernel_rfl)
       generalize vals 7 = v7 at *
       subst f7
       clear hf
       go_wp2_with (fail)
       exact RQ.mk rfl ⟨(by first | rfl | (simp [FS50_6_7]; done) | (simp [FS50_6_7, *]; done) | (simp [FS50_6_7, gotV]; done) | (simp [FS50_6_7, gotV]; omega)), fun h => absurd h (by decide)⟩ (Below.refl _ _)
      | 10, _ =>
       injection ho with ho
       subst ho
       clear hl
       simp only [fillA, List.take, List.drop, put_none, Act.put, List.setIfInBounds_toArray, List.set_cons_zero, List.set_cons_succ, Nat.reduceAdd]
       have f9 := hf 9 (by decide) (by kernel_rfl)
       generalize vals 9 = v9 at *
       subst f9
       have f7 := hf 7 (by decide) (by kernel_rfl)
       generalize vals 7 = v7 at *
       subst f7
       clear hf
       go_wp2_with (fail)
       exact RQ.mk rfl ⟨(by first | rfl | (simp [FS50_6_7]; done) | (simp [FS50_6_7, *]; done) | (simp [FS50_6_7, gotV]; done) | (simp [FS50_6_7, gotV]; omega)), fun h => absurd h (by decide)⟩ (Below.refl _ _)
      | 11, _ =>
       injection ho with ho
       subst ho
       clear hl
       simp only [fillA, List.take, List.drop, put_none, Act.put, List.setIfInBounds_toArray, List.set_cons_zero, List.set_cons_succ, Nat.reduceAdd]
       have f10 := hf 10 (by decide) (by kernel_rfl)
       generalize vals 10 = v10 at *
       subst f10
       clear hf
       go_wp2_with (fail)
       exact RQ.mk rfl ⟨(by first | rfl | (simp [FS50_6_7]; done) | (simp [FS50_6_7, *]; done) | (simp [FS50_6_7, gotV]; done) | (simp [FS50_6_7, gotV]; omega)), fun h => absurd h (by decide)⟩ (Below.refl _ _)
      | 12, _ =>
       injection ho with ho
       subst ho
       clear hl
       simp only [fillA, List.take, List.drop, put_none, Act.put, List.setIfInBounds_toArray, List.set_cons_zero, List.set_cons_succ, Nat.reduceAdd]
       have f11 := hf 11 (by decide) (by kernel_rfl)
       generalize vals 11 = v11 at *
       subst f11
       have f10 := hf 10 (by decide) (by kernel_rfl)
       generalize vals 10 = v10 at *
       subst f10
       clear hf
       go_wp2_with (fail)
       exact RQ.mk rfl ⟨(by first | rfl | (simp [FS50_6_7]; done) | (simp [FS50_6_7, *]; done) | (simp [FS50_6_7, gotV]; done) | (simp [FS50_6_7, gotV]; omega)), fun h => absurd h (by decide)⟩ (Below.refl _ _)
      | 13, _ =>
       injection ho with ho
       subst ho
       clear hl
       simp only [fillA, List.take, List.drop, put_none, Act.put, List.setIfInBounds_toArray, List.set_cons_zero, List.set_cons_succ, Nat.reduceAdd]
       have f10 := hf 10 (by decide) (by kernel_rfl)
       generalize vals 10 = v10 at *
       subst f10
       clear hf
       go_wp2_with (fail)
       exact RQ.mk rfl ⟨(by first | rfl | (simp [FS50_6_7]; done) | (simp [FS50_6_7, *]; done) | (simp [FS50_6_7, gotV]; done) | (simp [FS50_6_7, gotV]; omega)), fun h => absurd h (by decide)⟩ (Below.refl _ _)
      | 14, _ =>
       injection ho with ho
       subst ho
       clear hl
       simp only [fillA, List.take, List.drop, put_none, Act.put, List.setIfInBounds_toArray, List.set_cons_zero, List.set_cons_succ, Nat.reduceAdd]
       have f13 := hf 13 (by decide) (by kernel_rfl)
       generalize vals 13 = v13 at *
       subst f13
       have f10 := hf 10 (by decide) (by kernel_rfl)
       generalize vals 10 = v10 at *
       subst f10
       clear hf
       go_wp2_with (fail)
       exact RQ.mk rfl ⟨(by first | rfl | (simp [FS50_6_7]; done) | (simp [FS50_6_7, *]; done) | (simp [FS50_6_7, gotV]; done) | (simp [FS50_6_7, gotV]; omega)), fun h => absurd h (by decide)⟩ (Below.refl _ _)
      | 15, _ =>
       injection ho with ho
       subst ho
       clear hl
       simp only [fillA, List.take, List.drop, put_none, Act.put, List.setIfInBounds_toArray, List.set_cons_zero, List.set_cons_succ, Nat.reduceAdd]
       have f12 := hf 12 (by decide) (by kernel_rfl)
       generalize vals 12 = v12 at *
       subst f12
       have f14 := hf 14 (by decide) (by kernel_rfl)
       generalize vals 14 = v14 at *
       subst f14
       have f10 := hf 10 (by decide) (by kernel_rfl)
       generalize vals 10 = v10 at *
       subst f10
       clear hf
       go_wp2_with (fail)
       exact RQ.mk rfl ⟨(by first | rfl | (simp [FS50_6_7]; done) | (simp [FS50_6_7, *]; done) | (simp [FS50_6_7, gotV]; done) | (simp [FS50_6_7, gotV]; omega)), fun h => absurd h (by decide)⟩ (Below.refl _ _)
      | 16, _ =>
       injection ho with ho
       subst ho
       clear hl
       simp only [fillA, List.take, List.drop, put_none, Act.put, List.setIfInBounds_toArray, List.set_cons_zero, List.set_cons_succ, Nat.reduceAdd]
       have f15 := hf 15 (by decide) (by kernel_rfl)
       generalize vals 15 = v15 at *
       subst f15
       have f10 := hf 10 (by decide) (by kernel_rfl)
       generalize vals 10 = v10 at *
       subst f10
       clear hf
       go_wp2_with (fail)
       exact RQ.mk rfl ⟨(by first | rfl | (simp [FS50_6_7]; done) | (simp [FS50_6_7, *]; done) | (simp [FS50_6_7, gotV]; done) | (simp [FS50_6_7, gotV]; omega)), fun h => absurd h (by decide)⟩ (Below.refl _ _)
      | 17, _ =>
       injection ho with ho
       subst ho
       clear hl
       simp only [fillA, List.take, List.drop, put_none, Act.put, List.setIfInBounds_toArray, List.set_cons_zero, List.set_cons_succ, Nat.reduceAdd]
       have f16 := hf 16 (by decide) (by kernel_rfl)
       generalize vals 16 = v16 at *
       subst f16
       have f10 := hf 10 (by decide) (by kernel_rfl)
       generalize vals 10 = v10 at *
       subst f10
       clear hf
       go_wp2_with (fail)
       exact RQ.mk rfl ⟨(by first | rfl | (simp [FS50_6_7]; done) | (simp [FS50_6_7, *]; done) | (simp [FS50_6_7, gotV]; done) | (simp [FS50_6_7, gotV]; omega)), fun h => absurd h (by decide)⟩ (Below.refl _ _)
      | 18, _ =>
       injection ho with ho
       subst ho
       clear hl
       simp only [fillA, List.take, List.drop, put_none, Act.put, List.setIfInBounds_toArray, List.set_cons_zero, List.set_cons_succ, Nat.reduceAdd]
       have f10 := hf 10 (by decide) (by kernel_rfl)
       generalize vals 10 = v10 at *
       subst f10
       clear hf
       go_wp2_with (fail)
       exact RQ.mk rfl ⟨(by first | rfl | (simp [FS50_6_7]; done) | (simp [FS50_6_7, *]; done) | (simp [FS50_6_7, gotV]; done) | (simp [FS50_6_7, gotV]; omega)), fun h => absurd h (by decide)⟩ (Below.refl _ _)
      | 19, _ =>
       injection ho with ho
       subst ho
       clear hl
       simp only [fillA, List.take, List.drop, put_none, Act.put, List.setIfInBounds_toArray, List.set_cons_zero, List.set_cons_succ, Nat.reduceAdd]
       have f18 := hf 18 (by decide) (by kernel_rfl)
       generalize vals 18 = v18 at *
       subst f18
       have f10 := hf 10 (by decide) (by kernel_rfl)
       generalize vals 10 = v10 at *
       subst f10
       clear hf
       go_wp2_with (fail)
       exact RQ.mk rfl ⟨(by first | rfl | (simp [FS50_6_7]; done) | (simp [FS50_6_7, *]; done) | (simp [FS50_6_7, gotV]; done) | (simp [FS50_6_7, gotV]; omega)), fun h => absurd h (by decide)⟩ (Below.refl _ _)
      | 20, _ =>
       injection ho with ho
       subst ho
       clear hl
       simp only [fillA, List.take, List.drop, put_none, Act.put, List.setIfInBounds_toArray, List.set_cons_zero, List.set_cons_succ, Nat.reduceAdd]
       have f10 := hf 10 (by decide) (by kernel_rfl)
       generalize vals 10 = v10 at *
       subst f10
       clear hf
       go_wp2_with (fail)
       exact RQ.mk rfl ⟨(by first | rfl | (simp [FS50_6_7]; done) | (simp [FS50_6_7, *]; done) | (simp [FS50_6_7, gotV]; done) | (simp [FS50_6_7, gotV]; omega)), fun h => absurd h (by decide)⟩ (Below.refl _ _)
      | 21, _ =>
       injection ho with ho
       subst ho
       clear hl
       simp only [fillA, List.take, List.drop, put_none, Act.put, List.setIfInBounds_toArray, List.set_cons_zero, List.set_cons_succ, Nat.reduceAdd]
       have f19 := hf 19 (by decide) (by kernel_rfl)
       generalize vals 19 = v19 at *
       subst f19
       have f20 := hf 20 (by decide) (by kernel_rfl)
       generalize vals 20 = v20 at *
       subst f20
       have f10 := hf 10 (by decide) (by kernel_rfl)
       generalize vals 10 = v10 at *
       subst f10
       clear hf
       go_wp2_with (fail)
       exact RQ.mk rfl ⟨(by first | rfl | (simp [FS50_6_7]; done) | (simp [FS50_6_7, *]; done) | (simp [FS50_6_7, gotV]; done) | (simp [FS50_6_7, gotV]; omega)), fun h => absurd h (by decide)⟩ (Below.refl _ _)
      | 22, _ =>
       injection ho with ho
       subst ho
       clear hl
       simp only [fillA, List.take, List.drop, put_none, Act.put, List.setIfInBounds_toArray, List.set_cons_zero, List.set_cons_succ, Nat.reduceAdd]
       have f21 := hf 21 (by decide) (by kernel_rfl)
       generalize vals 21 = v21 at *
       subst f21
       have f10 := hf 10 (by decide) (by kernel_rfl)
       generalize vals 10 = v10 at *
       subst f10
       clear hf
       go_wp2_with (fail)
       exact RQ.mk rfl ⟨(by first | rfl | (simp [FS50_6_7]; done) | (simp [FS50_6_7, *]; done) | (simp [FS50_6_7, gotV]; done) | (simp [FS50_6_7, gotV]; omega)), fun h => absurd h (by decide)⟩ (Below.refl _ _)
      | 23, _ =>
       injection ho with ho
       subst ho
       clear hl
       simp only [fillA, List.take, List.drop, put_none, Act.put, List.setIfInBounds_toArray, List.set_cons_zero, List.set_cons_succ, Nat.reduceAdd]
       have f22 := hf 22 (by decide) (by kernel_rfl)
       generalize vals 22 = v22 at *
       subst f22
       have f10 := hf 10 (by decide) (by kernel_rfl)
       generalize vals 10 = v10 at *
       subst f10
       clear hf
       go_wp2_with (fail)
       exact RQ.mk rfl ⟨(by first | rfl | (simp [FS50_6_7]; done) | (simp [FS50_6_7, *]; done) | (simp [FS50_6_7, gotV]; done) | (simp [FS50_6_7, gotV]; omega)), fun h => absurd h (by decide)⟩ (Below.refl _ _)
      | 24, _ =>
       injection ho with ho
       subst ho
       clear hl
       simp only [fillA, List.take, List.drop, put_none, Act.put, List.setIfInBounds_toArray, List.set_cons_zero, List.set_cons_succ, Nat.reduceAdd]
       have f17 := hf 17 (by decide) (by kernel_rfl)
       generalize vals 17 = v17 at *
       subst f17
       have f23 := hf 23 (by decide) (by kernel_rfl)
       generalize vals 23 = v23 at *
       subst f23
       have f10 := hf 10 (by decide) (by kernel_rfl)
       generalize vals 10 = v10 at *
       subst f10
       clear hf
       go_wp2_with (fail)
       exact RQ.mk rfl ⟨(by first | rfl | (simp [FS50_6_7]; done) | (simp [FS50_6_7, *]; done) | (simp [FS50_6_7, gotV]; done) | (simp [FS50_6_7, gotV]; omega)), fun h => absurd h (by decide)⟩ (Below.refl _ _)
      | 25, _ =>
       injection ho with ho
       subst ho
       clear hl
       simp only [fillA, List.take, List.drop, put_none, Act.put, List.setIfInBounds_toArray, List.set_cons_zero, List.set_cons_succ, Nat.reduceAdd]
       have f10 := hf 10 (by decide) (by kernel_rfl)
       generalize vals 10 = v10 at *
       subst f10
       have f24 := hf 24 (by decide) (by kernel_rfl)
       generalize vals 24 = v24 at *
       subst f24
       have f7 := hf 7 (by decide) (by kernel_rfl)
       generalize vals 7 = v7 at *
       subst f7
       clear hf
       go_wp2_with (fail)
       exact RQ.mk rfl ⟨(by first | rfl | (simp [FS50_6_7]; done) | (simp [FS50_6_7, *]; done) | (simp [FS50_6_7, gotV]; done) | (simp [FS50_6_7, gotV]; omega)), fun h => absurd h (by decide)⟩ (Below.refl _ _)
      | 26, _ =>
       injection ho with ho
       subst ho
       clear hl
       simp only [fillA, List.take, List.drop, put_none, Act.put, List.setIfInBounds_toArray, List.set_cons_zero, List.set_cons_succ, Nat.reduceAdd]
       have f7 := hf 7 (by decide) (by kernel_rfl)
       generalize vals 7 = v7 at *
       subst f7
       have f25 := hf 25 (by decide) (by kernel_rfl)
       generalize vals 25 = v25 at *
       subst f25
       clear hf
       go_wp2_with (fail)
       exact RQ.mk rfl ⟨(by first | rfl | (simp [FS50_6_7]; done) | (simp [FS50_6_7, *]; done) | (simp [FS50_6_7, gotV]; done) | (simp [FS50_6_7, gotV]; omega)), fun h => absurd h (by decide)⟩ (Below.refl _ _)
      | m + 27, h => exact absurd h (by omega)
     ·intro vals w1 hb1 hf hd
      simp only [fillA, List.take, List.drop, put_none, Act.put, List.setIfInBounds_toArray, List.set_cons_zero, List.set_cons_succ, Nat.reduceAdd]
      clear hd
      have f0 := hf 0 (by decide)
      generalize vals 0 = v0 at *
      subst f0
      have f1 := hf 1 (by decide)
      generalize vals 1 = v1 at *
      subst f1
      have f2 := hf 2 (by decide)
      generalize vals 2 = v2 at *
      subst f2
      have f3 := hf 3 (by decide)
      generalize vals 3 = v3 at *
      subst f3
      have f4 := hf 4 (by decide)
      generalize vals 4 = v4 at *
      subst f4
      have f5 := hf 5 (by decide)
      generalize vals 5 = v5 at *
      subst f5
      have f6 := hf 6 (by decide)
      generalize vals 6 = v6 at *
      subst f6
      have f7 := hf 7 (by decide)
      generalize vals 7 = v7 at *
      subst f7
      have f8 := hf 8 (by decide)
      generalize vals 8 = v8 at *
      subst f8
      have f9 := hf 9 (by decide)
      generalize vals 9 = v9 at *
      subst f9
      have f10 := hf 10 (by decide)
      generalize vals 10 = v10 at *
      subst f10
      have f11 := hf 11 (by decide)
      generalize vals 11 = v11 at *
      subst f11
      have f12 := hf 12 (by decide)
      generalize vals 12 = v12 at *
      subst f12
      have f13 := hf 13 (by decide)
      generalize vals 13 = v13 at *
      subst f13
      have f14 := hf 14 (by decide)
      generalize vals 14 = v14 at *
      subst f14
      have f15 := hf 15 (by decide)
      generalize vals 15 = v15 at *
      subst f15
      have f16 := hf 16 (by decide)
      generalize vals 16 = v16 at *
      subst f16
      have f17 := hf 17 (by decide)
      generalize vals 17 = v17 at *
      subst f17
      have f18 := hf 18 (by decide)
      generalize vals 18 = v18 at *
      subst f18
      have f19 := hf 19 (by decide)
      generalize vals 19 = v19 at *
      subst f19
      have f20 := hf 20 (by decide)
      generalize vals 20 = v20 at *
      subst f20
      have f21 := hf 21 (by decide)
      generalize vals 21 = v21 at *
      subst f21
      have f22 := hf 22 (by decide)
      generalize vals 22 = v22 at *
      subst f22
      have f23 := hf 23 (by decide)
      generalize vals 23 = v23 at *
      subst f23
      have f24 := hf 24 (by decide)
      generalize vals 24 = v24 at *
      subst f24
      have f25 := hf 25 (by decide)
      generalize vals 25 = v25 at *
      subst f25
      have f26 := hf 26 (by decide)
      generalize vals 26 = v26 at *
      subst f26
      clear hf
      have hc1 := cellOf hb1
      have hf1 := frozOf hb1
      have hz1 := sizeOf hb1
      try simp at hz1
      go_wp2_with (fail)
      go_ret
      exact ⟨ret_bool (by rw [brB, HB.out (by rw [HV.out, HG.out])]; simp), by (repeat' (first | exact Below.refl _ _ | assumption | refine Below.setCell ?_ ?_ _ | refine Below.drew ?_ | refine Below.alloc ?_ ?_ _ | refine Below.trans ?_ (Below.mono (by assumption) ?_) | (simp; done) | (simp; omega) | omega))⟩
   | succ k =>
    have HV := hid (vAt_succ (good := ivOk) (lt := ivLt) k hlt)
    have hlt' : k < xs.length := by omega
    have hx0 := hcx (k + 1) hlt 0 _ rfl
    have hx1 := hcx (k + 1) hlt 1 _ rfl
    have hy1 := hcx k hlt' 1 _ rfl
    simp only [Nat.add_zero] at hx0
    clear hcx
    generalize xs[k + 1] = x at *
    generalize xs[k] = y at *
    by_cases hg : ivOk x = true
    rotate_left
    ·have HG : Hid (ivOk x = false) := by show _ = _; simpa using hg
     clear hg
     have hg := HG.out
     simp only [ivOk] at hg
     go_wp2_with (fail)
     refine wp_region_w (n := 27) [] [] (FS50_6_8 d wr x y bx ox k xs.length cap w) rfl (by kernel_rfl) (fun _ _ d _ _ h => by cases d <;> exact h) ?_ ?_ ?_ ?_ ?_ ?_
     ·intro iq
      match iq with
      | 0 | 1 | 2 | 3 | 4 | 5 | 6 | 7 | 8 | 9 | 10 | 11 | 12 | 13 | 14 | 15 | 16 | 17 | 18 | 19 | 20 | 21 | 22 | 23 | 24 | 25 | 26 => exact Stable.const _
      | n + 27 => exact Stable.const _
     ·intro iq hi
      exact absurd hi (by simp)
     ·intro iq hi
      exact absurd hi (by simp)
     ·intro iq o hi hl ho vals w1 hb1 hf
      exact absurd hl (by simp)
     ·intro iq o hi hl ho vals w1 hb1 hf
      match iq, hi with
      | 0, _ =>
       injection ho with ho
       subst ho
       clear hl
       simp only [fillA, List.take, List.drop, put_none, Act.put, List.setIfInBounds_toArray, List.set_cons_zero, List.set_cons_succ, Nat.reduceAdd]
       clear hf
       go_wp2_with (fail)
       exact RQ.mk rfl ⟨(by first | rfl | (simp [FS50_6_8]; done) | (simp [FS50_6_8, *]; done) | (simp [FS50_6_8, gotV]; done) | (simp [FS50_6_8, gotV]; omega)), fun h => absurd h (by decide)⟩ (Below.refl _ _)
      | 1, _ =>
       injection ho with ho
       subst ho
       clear hl
       simp only [fillA, List.take, List.drop, put_none, Act.put, List.setIfInBounds_toArray, List.set_cons_zero, List.set_cons_succ, Nat.reduceAdd]
       have f0 := hf 0 (by decide) (by kernel_rfl)
       generalize vals 0 = v0 at *
       subst f0
       clear hf
       have hc1 := cellOf hb1
       have hf1 := frozOf hb1
       have hz1 := sizeOf hb1
       try simp at hz1
       go_wp2_with (fail)
       exact RQ.mk rfl ⟨(by first | rfl | (simp [FS50_6_8]; done) | (simp [FS50_6_8, *]; done) | (simp [FS50_6_8, gotV]; done) | (simp [FS50_6_8, gotV]; omega)), fun h => absurd h (by decide)⟩ (Below.refl _ _)
      | 2, _ =>
       injection ho with ho
       subst ho
       clear hl
       simp only [fillA, List.take, List.drop, put_none, Act.put, List.setIfInBounds_toArray, List.set_cons_zero, List.set_cons_succ, Nat.reduceAdd]
       clear hf
       go_wp2_with (fail)
       exact RQ.mk rfl ⟨(by first | rfl | (simp [FS50_6_8]; done) | (simp [FS50_6_8, *]; done) | (simp [FS50_6_8, gotV]; done) | (simp [FS50_6_8, gotV]; omega)), fun h => absurd h (by decide)⟩ (Below.refl _ _)
      | 3, _ =>
       injection ho with ho
       subst ho
       clear hl
       simp only [fillA, List.take, List.drop, put_none, Act.put, List.setIfInBounds_toArray, List.set_cons_zero, List.set_cons_succ, Nat.reduceAdd]
       have f1 := hf 1 (by decide) (by kernel_rfl)
       generalize vals 1 = v1 at *
       subst f1
       have f2 := hf 2 (by decide) (by kernel_rfl)
       generalize vals 2 = v2 at *
       subst f2
       clear hf
       go_wp2_with (fail)
       exact RQ.mk rfl ⟨(by first | rfl | (simp [FS50_6_8]; done) | (simp [FS50_6_8, *]; done) | (simp [FS50_6_8, gotV]; done) | (simp [FS50_6_8, gotV]; omega)), fun h => absurd h (by decide)⟩ (Below.refl _ _)
      | 4, _ =>
       injection ho with ho
       subst ho
       clear hl
       simp only [fillA, List.take, List.drop, put_none, Act.put, List.setIfInBounds_toArray, List.set_cons_zero, List.set_cons_succ, Nat.reduceAdd]
       have f3 := hf 3 (by decide) (by kernel_rfl)
       generalize vals 3 = v3 at *
       subst f3
       clear hf
       have hc1 := cellOf hb1
       have hf1 := frozOf hb1
       have hz1 := sizeOf hb1
       try simp at hz1
       go_wp2_with (fail)
       exact RQ.mk rfl ⟨(by first | rfl | (simp [FS50_6_8]; done) | (simp [FS50_6_8, *]; done) | (simp [FS50_6_8, gotV]; done) | (simp [FS50_6_8, gotV]; omega)), fun h => absurd h (by decide)⟩ (Below.refl _ _)
      | 5, _ =>
       injection ho with ho
       subst ho
       clear hl
       simp only [fillA, List.take, List.drop, put_none, Act.put, List.setIfInBounds_toArray, List.set_cons_zero, List.set_cons_succ, Nat.reduceAdd]
       have f4 := hf 4 (by decide) (by kernel_rfl)
       generalize vals 4 = v4 at *
       subst f4
       clear hf
       have hc1 := cellOf hb1
       have hf1 := frozOf hb1
       have hz1 := sizeOf hb1
       try simp at hz1
       go_wp2_with (first | (go_at_call 82; refine (c_spec_l13Good _ _ _ ).mono ?_; rintro e w' ⟨rfl, hb⟩; have hc := cellOf hb; have hf := frozOf hb; have hz := sizeOf hb; try simp at hz))
       exact RQ.mk rfl ⟨(by first | rfl | (simp [FS50_6_8]; done) | (simp [FS50_6_8, *]; done) | (simp [FS50_6_8, gotV]; done) | (simp [FS50_6_8, gotV]; omega)), fun h => absurd h (by decide)⟩ (by (repeat' (first | exact Below.refl _ _ | assumption | refine Below.setCell ?_ ?_ _ | refine Below.drew ?_ | refine Below.alloc ?_ ?_ _ | refine Below.trans ?_ (Below.mono (by assumption) ?_) | (simp; done) | (simp; omega) | omega)))
      | 6, _ =>
       injection ho with ho
       subst ho
       clear hl
       simp only [fillA, List.take, List.drop, put_none, Act.put, List.setIfInBounds_toArray, List.set_cons_zero, List.set_cons_succ, Nat.reduceAdd]
       have f5 := hf 5 (by decide) (by kernel_rfl)
       generalize vals 5 = v5 at *
       subst f5
       clear hf
       go_wp2_with (fail)
       exact RQ.mk rfl ⟨(by first | rfl | (simp [FS50_6_8]; done) | (simp [FS50_6_8, *]; done) | (simp [FS50_6_8, gotV]; done) | (simp [FS50_6_8, gotV]; omega)), fun h => absurd h (by decide)⟩ (Below.refl _ _)
      | 7, _ =>
       injection ho with ho
       subst ho
       clear hl
       simp only [fillA, List.take, List.drop, put_none, Act.put, List.setIfInBounds_toArray, List.set_cons_zero, List.set_cons_succ, Nat.reduceAdd]
       have f6 := hf 6 (by decide) (by kernel_rfl)
       generalize vals 6 = v6 at *
       subst f6
       have f5 := hf 5 (by decide) (by kernel_rfl)
       generalize vals 5 = v5 at *
       subst f5
       clear hf
       go_wp2_with (fail)
       exact RQ.mk rfl ⟨(by first | rfl | (simp [FS50_6_8]; done) | (simp [FS50_6_8, *]; done) | (simp [FS50_6_8, gotV]; done) | (simp [FS50_6_8, gotV]; omega)), fun h => absurd h (by decide)⟩ (Below.refl _ _)
      | 8, _ =>
       injection ho with ho
       subst ho
       clear hl
       simp only [fillA, List.take, List.drop, put_none, Act.put, List.setIfInBounds_toArray, List.set_cons_zero, List.set_cons_succ, Nat.reduceAdd]
       have f7 := hf 7 (by decide) (by kernel_rfl)
       generalize vals 7 = v7 at *
       subst f7
       clear hf
       go_wp2_with (fail)
       exact RQ.mk rfl ⟨(by first | rfl | (simp [FS50_6_8]; done) | (simp [FS50_6_8, *]; done) | (simp [FS50_6_8, gotV]; done) | (simp [FS50_6_8, gotV]; omega)), fun h => absurd h (by decide)⟩ (Below.refl _ _)
      | 9, _ =>
       injection ho with ho
       subst ho
       clear hl
       simp only [fillA, List.take, List.drop, put_none, Act.put, List.setIfInBounds_toArray, List.set_cons_zero, List.set_cons_succ, Nat.reduceAdd]
       have f8 := hf 8 (by decide) (by kernel_rfl)
       generalize vals 8 = v8 at *
       subst f8
       have f7 := hf 7 (by decide) (by kernel_rfl)
       generalize vals 7 = v7 at *
       subst f7
       clear hf
       go_wp2_with (fail)
       exact RQ.mk rfl ⟨(by first | rfl | (simp [FS50_6_8]; done) | (simp [FS50_6_8, *]; done) | (simp [FS50_6_8, gotV]; done) | (simp [FS50_6_8, gotV]; omega)), fun h => absurd h (by decide)⟩ (Below.refl _ _)
      | 10, _ =>
       injection ho with ho
       subst ho
       clear hl
       simp only [fillA, List.take, List.drop, put_none, Act.put, List.setIfInBounds_toArray, List.set_cons_zero, List.set_cons_succ, Nat.reduceAdd]
       have f9 := hf 9 (by decide) (by kernel_rfl)
       generalize vals 9 = v9 at *
       subst f9
       have f7 := hf 7 (by decide) (by kernel_rfl)
       generalize vals 7 = v7 at *
       subst f7
       clear hf
       go_wp2_with (fail)
       exact RQ.mk rfl ⟨(by first | rfl | (simp [FS50_6_8]; done) | (simp [FS50_6_8, *]; done) | (simp [FS50_6_8, gotV]; done) | (simp [FS50_6_8, gotV]; omega)), fun h => absurd h (by decide)⟩ (Below.refl _ _)
      | 11, _ =>
       injection ho with ho
       subst ho
       clear hl
       simp only [fillA, List.take, List.drop, put_none, Act.put, List.setIfInBounds_toArray, List.set_cons_zero, List.set_cons_succ, Nat.reduceAdd]
       have f10 := hf 10 (by decide) (by kernel_rfl)
       generalize vals 10 = v10 at *
       subst f10
       clear hf
       go_wp2_with (fail)
       exact RQ.mk rfl ⟨(by first | rfl | (simp [FS50_6_8]; done) | (simp [FS50_6_8, *]; done) | (simp [FS50_6_8, gotV]; done) | (simp [FS50_6_8, gotV]; omega)), fun h => absurd h (by decide)⟩ (Below.refl _ _)
      | 12, _ =>
       injection ho with ho
       subst ho
       clear hl
       simp only [fillA, List.take, List.drop, put_none, Act.put, List.setIfInBounds_toArray, List.set_cons_zero, List.set_cons_succ, Nat.reduceAdd]
       have f11 := hf 11 (by decide) (by kernel_rfl)
       generalize vals 11 = v11 at *
       subst f11
       have f10 := hf 10 (by decide) (by kernel_rfl)
       generalize vals 10 = v10 at *
       subst f10
       clear hf
       go_wp2_with (fail)
       exact RQ.mk rfl ⟨(by first | rfl | (simp [FS50_6_8]; done) | (simp [FS50_6_8, *]; done) | (simp [FS50_6_8, gotV]; done) | (simp [FS50_6_8, gotV]; omega)), fun h => absurd h (by decide)⟩ (Below.refl _ _)
      | 13, _ =>
       injection ho with ho
       subst ho
       clear hl
       simp only [fillA, List.take, List.drop, put_none, Act.put, List.setIfInBounds_toArray, List.set_cons_zero, List.set_cons_succ, Nat.reduceAdd]
       have f10 := hf 10 (by decide) (by kernel_rfl)
       generalize vals 10 = v10 at *
       subst f10
       clear hf
       go_wp2_with (fail)
       exact RQ.mk rfl ⟨(by first | rfl | (simp [FS50_6_8]; done) | (simp [FS50_6_8, *]; done) | (simp [FS50_6_8, gotV]; done) | (simp [FS50_6_8, gotV]; omega)), fun h => absurd h (by decide)⟩ (Below.refl _ _)
      | 14, _ =>
       injection ho with ho
       subst ho
       clear hl
       simp only [fillA, List.take, List.drop, put_none, Act.put, List.setIfInBounds_toArray, List.set_cons_zero, List.set_cons_succ, Nat.reduceAdd]
       have f13 := hf 13 (by decide) (by kernel_rfl)
       generalize vals 13 = v13 at *
       subst f13
       have f10 := hf 10 (by decide) (by kernel_rfl)
       generalize vals 10 = v10 at *
       subst f10
       clear hf
       go_wp2_with (fail)
       exact RQ.mk rfl ⟨(by first | rfl | (simp [FS50_6_8]; done) | (simp [FS50_6_8, *]; done) | (simp [FS50_6_8, gotV]; done) | (simp [FS50_6_8, gotV]; omega)), fun h => absurd h (by decide)⟩ (Below.refl _ _)
      | 15, _ =>
       injection ho with ho
       subst ho
       clear hl
       simp only [fillA, List.take, List.drop, put_none, Act.put, List.setIfInBounds_toArray, List.set_cons_zero, List.set_cons_succ, Nat.reduceAdd]
       have f12 := hf 12 (by decide) (by kernel_rfl)
       generalize vals 12 = v12 at *
       subst f12
       have f14 := hf 14 (by decide) (by kernel_rfl)
       generalize vals 14 = v14 at *
       subst f14
       have f10 := hf 10 (by decide) (by kernel_rfl)
       generalize vals 10 = v10 at *
       subst f10
       clear hf
       go_wp2_with (fail)
       exact RQ.mk rfl ⟨(by first | rfl | (simp [FS50_6_8]; done) | (simp [FS50_6_8, *]; done) | (simp [FS50_6_8, gotV]; done) | (simp [FS50_6_8, gotV]; omega)), fun h => absurd h (by decide)⟩ (Below.refl _ _)
      | 16, _ =>
       injection ho with ho
       subst ho
       clear hl
       simp only [fillA, List.take, List.drop, put_none, Act.put, List.setIfInBounds_toArray, List.set_cons_zero, List.set_cons_succ, Nat.reduceAdd]
       have f15 := hf 15 (by decide) (by kernel_rfl)
       generalize vals 15 = v15 at *
       subst f15
       have f10 := hf 10 (by decide) (by kernel_rfl)
       generalize vals 10 = v10 at *
       subst f10
       clear hf
       go_wp2_with (fail)
       exact RQ.mk rfl ⟨(by first | rfl | (simp [FS50_6_8]; done) | (simp [FS50_6_8, *]; done) | (simp [FS50_6_8, gotV]; done) | (simp [FS50_6_8, gotV]; omega)), fun h => absurd h (by decide)⟩ (Below.refl _ _)
      | 17, _ =>
       injection ho with ho
       subst ho
       clear hl
       simp only [fillA, List.take, List.drop, put_none, Act.put, List.setIfInBounds_toArray, List.set_cons_zero, List.set_cons_succ, Nat.reduceAdd]
       have f16 := hf 16 (by decide) (by kernel_rfl)
       generalize vals 16 = v16 at *
       subst f16
       have f10 := hf 10 (by decide) (by kernel_rfl)
       generalize vals 10 = v10 at *
       subst f10
       clear hf
       go_wp2_with (fail)
       exact RQ.mk rfl ⟨(by first | rfl | (simp [FS50_6_8]; done) | (simp [FS50_6_8, *]; done) | (simp [FS50_6_8, gotV]; done) | (simp [FS50_6_8, gotV]; omega)), fun h => absurd h (by decide)⟩ (Below.refl _ _)
      | 18, _ =>
       injection ho with ho
       subst ho
       clear hl
       simp only [fillA, List.take, List.drop, put_none, Act.put, List.setIfInBounds_toArray, List.set_cons_zero, List.set_cons_succ, Nat.reduceAdd]
       have f10 := hf 10 (by decide) (by kernel_rfl)
       generalize vals 10 = v10 at *
       subst f10
       clear hf
       go_wp2_with (fail)
       exact RQ.mk rfl ⟨(by first | rfl | (simp [FS50_6_8]; done) | (simp [FS50_6_8, *]; done) | (simp [FS50_6_8, gotV]; done) | (simp [FS50_6_8, gotV]; omega)), fun h => absurd h (by decide)⟩ (Below.refl _ _)
      | 19, _ =>
       injection ho with ho
       subst ho
       clear hl
       simp only [fillA, List.take, List.drop, put_none, Act.put, List.setIfInBounds_toArray, List.set_cons_zero, List.set_cons_succ, Nat.reduceAdd]
       have f18 := hf 18 (by decide) (by kernel_rfl)
       generalize vals 18 = v18 at *
       subst f18
       have f10 := hf 10 (by decide) (by kernel_rfl)
       generalize vals 10 = v10 at *
       subst f10
       clear hf
       go_wp2_with (fail)
       exact RQ.mk rfl ⟨(by first | rfl | (simp [FS50_6_8]; done) | (simp [FS50_6_8, *]; done) | (simp [FS50_6_8, gotV]; done) | (simp [FS50_6_8, gotV]; omega)), fun h => absurd h (by decide)⟩ (Below.refl _ _)
      | 20, _ =>
       injection ho with ho
       subst ho
       clear hl
       simp only [fillA, List.take, List.drop, put_none, Act.put, List.setIfInBounds_toArray, List.set_cons_zero, List.set_cons_succ, Nat.reduceAdd]
       have f10 := hf 10 (by decide) (by kernel_rfl)
       generalize vals 10 = v10 at *
       subst f10
       clear hf
       go_wp2_with (fail)
       exact RQ.mk rfl ⟨(by first | rfl | (simp [FS50_6_8]; done) | (simp [FS50_6_8, *]; done) | (simp [FS50_6_8, gotV]; done) | (simp [FS50_6_8, gotV]; omega)), fun h => absurd h (by decide)⟩ (Below.refl _ _)
      | 21, _ =>
       injection ho with ho
       subst ho
       clear hl
       simp only [fillA, List.take, List.drop, put_none, Act.put, List.setIfInBounds_toArray, List.set_cons_zero, List.set_cons_succ, Nat.reduceAdd]
       have f19 := hf 19 (by decide) (by kernel_rfl)
       generalize vals 19 = v19 at *
       subst f19
       have f20 := hf 20 (by decide) (by kernel_rfl)
       generalize vals 20 = v20 at *
       subst f20
       have f10 := hf 10 (by decide) (by kernel_rfl)
       generalize vals 10 = v10 at *
       subst f10
       clear hf
       go_wp2_with (fail)
       exact RQ.mk rfl ⟨(by first | rfl | (simp [FS50_6_8]; done) | (simp [FS50_6_8, *]; done) | (simp [FS50_6_8, gotV]; done) | (simp [FS50_6_8, gotV]; omega)), fun h => absurd h (by decide)⟩ (Below.refl _ _)
      | 22, _ =>
       injection ho with ho
       subst ho
       clear hl
       simp only [fillA, List.take, List.drop, put_none, Act.put, List.setIfInBounds_toArray, List.set_cons_zero, List.set_cons_succ, Nat.reduceAdd]
       have f21 := hf 21 (by decide) (by kernel_rfl)
       generalize vals 21 = v21 at *
       subst f21
       have f10 := hf 10 (by decide) (by kernel_rfl)
       generalize vals 10 = v10 at *
       subst f10
       clear hf
       go_wp2_with (fail)
       exact RQ.mk rfl ⟨(by first | rfl | (simp [FS50_6_8]; done) | (simp [FS50_6_8, *]; done) | (simp [FS50_6_8, gotV]; done) | (simp [FS50_6_8, gotV]; omega)), fun h => absurd h (by decide)⟩ (Below.refl _ _)
      | 23, _ =>
       injection ho with ho
       subst ho
       clear hl
       simp only [fillA, List.take, List.drop, put_none, Act.put, List.setIfInBounds_toArray, List.set_cons_zero, List.set_cons_succ, Nat.reduceAdd]
       have f22 := hf 22 (by decide) (by kernel_rfl)
       generalize vals 22 = v22 at *
       subst f22
       have f10 := hf 10 (by decide) (by kernel_rfl)
       generalize vals 10 = v10 at *
       subst f10
       clear hf
       go_wp2_with (fail)
       exact RQ.mk rfl ⟨(by first | rfl | (simp [FS50_6_8]; done) | (simp [FS50_6_8, *]; done) | (simp [FS50_6_8, gotV]; done) | (simp [FS50_6_8, gotV]; omega)), fun h => absurd h (by decide)⟩ (Below.refl _ _)
      | 24, _ =>
       injection ho with ho
       subst ho
       clear hl
       simp only [fillA, List.take, List.drop, put_none, Act.put, List.setIfInBounds_toArray, List.set_cons_zero, List.set_cons_succ, Nat.reduceAdd]
       have f17 := hf 17 (by decide) (by kernel_rfl)
       generalize vals 17 = v17 at *
       subst f17
       have f23 := hf 23 (by decide) (by kernel_rfl)
       generalize vals 23 = v23 at *
       subst f23
       have f10 := hf 10 (by decide) (by kernel_rfl)
       generalize vals 10 = v10 at *
       subst f10
       clear hf
       go_wp2_with (fail)
       exact RQ.mk rfl ⟨(by first | rfl | (simp [FS50_6_8]; done) | (simp [FS50_6_8, *]; done) | (simp [FS50_6_8, gotV]; done) | (simp [FS50_6_8, gotV]; omega)), fun h => absurd h (by decide)⟩ (Below.refl _ _)
      | 25, _ =>
       injection ho with ho
       subst ho
       clear hl
       simp only [fillA, List.take, List.drop, put_none, Act.put, List.setIfInBounds_toArray, List.set_cons_zero, List.set_cons_succ, Nat.reduceAdd]
       have f10 := hf 10 (by decide) (by kernel_rfl)
       generalize vals 10 = v10 at *
       subst f10
       have f24 := hf 24 (by decide) (by kernel_rfl)
       generalize vals 24 = v24 at *
       subst f24
       have f7 := hf 7 (by decide) (by kernel_rfl)
       generalize vals 7 = v7 at *
       subst f7
       clear hf
       go_wp2_with (fail)
       exact RQ.mk rfl ⟨(by first | rfl | (simp [FS50_6_8]; done) | (simp [FS50_6_8, *]; done) | (simp [FS50_6_8, gotV]; done) | (simp [FS50_6_8, gotV]; omega)), fun h => absurd h (by decide)⟩ (Below.refl _ _)
      | 26, _ =>
       injection ho with ho
       subst ho
       clear hl
       simp only [fillA, List.take, List.drop, put_none, Act.put, List.setIfInBounds_toArray, List.set_cons_zero, List.set_cons_succ, Nat.reduceAdd]
       have f7 := hf 7 (by decide) (by kernel_rfl)
       generalize vals 7 = v7 at *
       subst f7
       have f25 := hf 25 (by decide) (by kernel_rfl)
       generalize vals 25 = v25 at *
       subst f25
       clear hf
       go_wp2_with (fail)
       exact RQ.mk rfl ⟨(by first | rfl | (simp [FS50_6_8]; done) | (simp [FS50_6_8, *]; done) | (simp [FS50_6_8, gotV]; done) | (simp [FS50_6_8, gotV]; omega)), fun h => absurd h (by decide)⟩ (Below.refl _ _)
      | m + 27, h => exact absurd h (by omega)
     ·intro vals w1 hb1 hf hd
      simp only [fillA, List.take, List.drop, put_none, Act.put, List.setIfInBounds_toArray, List.set_cons_zero, List.set_cons_succ, Nat.reduceAdd]
      clear hd
      have f0 := hf 0 (by decide)
      generalize vals 0 = v0 at *
      subst f0
      have f1 := hf 1 (by decide)
      generalize vals 1 = v1 at *
      subst f1
      have f2 := hf 2 (by decide)
      generalize vals 2 = v2 at *
      subst f2
      have f3 := hf 3 (by decide)
      generalize vals 3 = v3 at *
      subst f3
      have f4 := hf 4 (by decide)
      generalize vals 4 = v4 at *
      subst f4
      have f5 := hf 5 (by decide)
      generalize vals 5 = v5 at *
      subst f5
      have f6 := hf 6 (by decide)
      generalize vals 6 = v6 at *
      subst f6
      have f7 := hf 7 (by decide)
      generalize vals 7 = v7 at *
      subst f7
      have f8 := hf 8 (by decide)
      generalize vals 8 = v8 at *
      subst f8
      have f9 := hf 9 (by decide)
      generalize vals 9 = v9 at *
      subst f9
      have f10 := hf 10 (by decide)
      generalize vals 10 = v10 at *
      subst f10
      have f11 := hf 11 (by decide)
      generalize vals 11 = v11 at *
      subst f11
      have f12 := hf 12 (by decide)
      generalize vals 12 = v12 at *
      subst f12
      have f13 := hf 13 (by decide)
      generalize vals 13 = v13 at *
      subst f13
      have f14 := hf 14 (by decide)
      generalize vals 14 = v14 at *
      subst f14
      have f15 := hf 15 (by decide)
      generalize vals 15 = v15 at *
      subst f15
      have f16 := hf 16 (by decide)
      generalize vals 16 = v16 at *
      subst f16
      have f17 := hf 17 (by decide)
      generalize vals 17 = v17 at *
      subst f17
      have f18 := hf 18 (by decide)
      generalize vals 18 = v18 at *
      subst f18
      have f19 := hf 19 (by decide)
      generalize vals 19 = v19 at *
      subst f19
      have f20 := hf 20 (by decide)
      generalize vals 20 = v20 at *
      subst f20
      have f21 := hf 21 (by decide)
      generalize vals 21 = v21 at *
      subst f21
      have f22 := hf 22 (by decide)
      generalize vals 22 = v22 at *
      subst f22
      have f23 := hf 23 (by decide)
      generalize vals 23 = v23 at *
      subst f23
      have f24 := hf 24 (by decide)
      generalize vals 24 = v24 at *
      subst f24
      have f25 := hf 25 (by decide)
      generalize vals 25 = v25 at *
      subst f25
      have f26 := hf 26 (by decide)
      generalize vals 26 = v26 at *
      subst f26
      clear hf
      have hc1 := cellOf hb1
      have hf1 := frozOf hb1
      have hz1 := sizeOf hb1
      try simp at hz1
      go_wp2_with (fail)
      go_ret
      exact ⟨ret_bool (by rw [brB, HB.out (by rw [HV.out, HG.out]; rfl)]; simp), by (repeat' (first | exact Below.refl _ _ | assumption | refine Below.setCell ?_ ?_ _ | refine Below.drew ?_ | refine Below.alloc ?_ ?_ _ | refine Below.trans ?_ (Below.mono (by assumption) ?_) | (simp; done) | (simp; omega) | omega))⟩
    have HG := hid hg
    simp only [ivOk] at hg
    by_cases hl2 : y.2 < x.1
    ·have H2 : Hid (ivLt y x = true) := by show _ = _; simpa [ivLt] using hl2
     go_wp2_with (fail)
     refine wp_region_w (n := 27) [] [] (FS50_6_9 d wr x y bx ox k xs.length cap w) rfl (by kernel_rfl) (fun _ _ d _ _ h => by cases d <;> exact h) ?_ ?_ ?_ ?_ ?_ ?_
     ·intro iq
      match iq with
      | 0 | 1 | 2 | 3 | 4 | 5 | 6 | 7 | 8 | 9 | 10 | 11 | 12 | 13 | 14 | 15 | 16 | 17 | 18 | 19 | 20 | 21 | 22 | 23 | 24 | 25 | 26 => exact Stable.const _
      | n + 27 => exact Stable.const _
     ·intro iq hi
      exact absurd hi (by simp)
     ·intro iq hi
      exact absurd hi (by simp)
     ·intro iq o hi hl ho vals w1 hb1 hf
      exact absurd hl (by simp)
     ·intro iq o hi hl ho vals w1 hb1 hf
      match iq, hi with
      | 0, _ =>
       injection ho with ho
       subst ho
       clear hl
       simp only [fillA, List.take, List.drop, put_none, Act.put, List.setIfInBounds_toArray, List.set_cons_zero, List.set_cons_succ, Nat.reduceAdd]
       clear hf
       go_wp2_with (fail)
       exact RQ.mk rfl ⟨(by first | rfl | (simp [FS50_6_9]; done) | (simp [FS50_6_9, *]; done) | (simp [FS50_6_9, gotV]; done) | (simp [FS50_6_9, gotV]; omega)), fun h => absurd h (by decide)⟩ (Below.refl _ _)
      | 1, _ =>
       injection ho with ho
       subst ho
       clear hl
       simp only [fillA, List.take, List.drop, put_none, Act.put, List.setIfInBounds_toArray, List.set_cons_zero, List.set_cons_succ, Nat.reduceAdd]
       have f0 := hf 0 (by decide) (by kernel_rfl)
       generalize vals 0 = v0 at *
       subst f0
       clear hf
       have hc1 := cellOf hb1
       have hf1 := frozOf hb1
       have hz1 := sizeOf hb1
       try simp at hz1
       go_wp2_with (fail)
       exact RQ.mk rfl ⟨(by first | rfl | (simp [FS50_6_9]; done) | (simp [FS50_6_9, *]; done) | (simp [FS50_6_9, gotV]; done) | (simp [FS50_6_9, gotV]; omega)), fun h => absurd h (by decide)⟩ (Below.refl _ _)
      | 2, _ =>
       injection ho with ho
       subst ho
       clear hl
       simp only [fillA, List.take, List.drop, put_none, Act.put, List.setIfInBounds_toArray, List.set_cons_zero, List.set_cons_succ, Nat.reduceAdd]
       clear hf
       go_wp2_with (fail)
       exact RQ.mk rfl ⟨(by first | rfl | (simp [FS50_6_9]; done) | (simp [FS50_6_9, *]; done) | (simp [FS50_6_9, gotV]; done) | (simp [FS50_6_9, gotV]; omega)), fun h => absurd h (by decide)⟩ (Below.refl _ _)
      | 3, _ =>
       injection ho with ho
       subst ho
       clear hl
       simp only [fillA, List.take, List.drop, put_none, Act.put, List.setIfInBounds_toArray, List.set_cons_zero, List.set_cons_succ, Nat.reduceAdd]
       have f1 := hf 1 (by decide) (by kernel_rfl)
       generalize vals 1 = v1 at *
       subst f1
       have f2 := hf 2 (by decide) (by kernel_rfl)
       generalize vals 2 = v2 at *
       subst f2
       clear hf
       go_wp2_with (fail)
       exact RQ.mk rfl ⟨(by first | rfl | (simp [FS50_6_9]; done) | (simp [FS50_6_9, *]; done) | (simp [FS50_6_9, gotV]; done) | (simp [FS50_6_9, gotV]; omega)), fun h => absurd h (by decide)⟩ (Below.refl _ _)
      | 4, _ =>
       injection ho with ho
       subst ho
       clear hl
       simp only [fillA, List.take, List.drop, put_none, Act.put, List.setIfInBounds_toArray, List.set_cons_zero, List.set_cons_succ, Nat.reduceAdd]
       have f3 := hf 3 (by decide) (by kernel_rfl)
       generalize vals 3 = v3 at *
       subst f3
       clear hf
       have hc1 := cellOf hb1
       have hf1 := frozOf hb1
       have hz1 := sizeOf hb1
       try simp at hz1
       go_wp2_with (fail)
       exact RQ.mk rfl ⟨(by first | rfl | (simp [FS50_6_9]; done) | (simp [FS50_6_9, *]; done) | (simp [FS50_6_9, gotV]; done) | (simp [FS50_6_9, gotV]; omega)), fun h => absurd h (by decide)⟩ (Below.refl _ _)
      | 5, _ =>
       injection ho with ho
       subst ho
       clear hl
       simp only [fillA, List.take, List.drop, put_none, Act.put, List.setIfInBounds_toArray, List.set_cons_zero, List.set_cons_succ, Nat.reduceAdd]
       have f4 := hf 4 (by decide) (by kernel_rfl)
       generalize vals 4 = v4 at *
       subst f4
       clear hf
       have hc1 := cellOf hb1
       have hf1 := frozOf hb1
       have hz1 := sizeOf hb1
       try simp at hz1
       go_wp2_with (first | (go_at_call 82; refine (c_spec_l13Good _ _ _ ).mono ?_; rintro e w' ⟨rfl, hb⟩; have hc := cellOf hb; have hf := frozOf hb; have hz := sizeOf hb; try simp at hz))
       exact RQ.mk rfl ⟨(by first | rfl | (simp [FS50_6_9]; done) | (simp [FS50_6_9, *]; done) | (simp [FS50_6_9, gotV]; done) | (simp [FS50_6_9, gotV]; omega)), fun h => absurd h (by decide)⟩ (by (repeat' (first | exact Below.refl _ _ | assumption | refine Below.setCell ?_ ?_ _ | refine Below.drew ?_ | refine Below.alloc ?_ ?_ _ | refine Below.trans ?_ (Below.mono (by assumption) ?_) | (simp; done) | (simp; omega) | omega)))
      | 6, _ =>
       injection ho with ho
       subst ho
       clear hl
       simp only [fillA, List.take, List.drop, put_none, Act.put, List.setIfInBounds_toArray, List.set_cons_zero, List.set_cons_succ, Nat.reduceAdd]
       have f5 := hf 5 (by decide) (by kernel_rfl)
       generalize vals 5 = v5 at *
       subst f5
       clear hf
       go_wp2_with (fail)
       exact RQ.mk rfl ⟨(by first | rfl | (simp [FS50_6_9]; done) | (simp [FS50_6_9, *]; done) | (simp [FS50_6_9, gotV]; done) | (simp [FS50_6_9, gotV]; omega)), fun h => absurd h (by decide)⟩ (Below.refl _ _)
      | 7, _ =>
       injection ho with ho
       subst ho
       clear hl
       simp only [fillA, List.take, List.drop, put_none, Act.put, List.setIfInBounds_toArray, List.set_cons_zero, List.set_cons_succ, Nat.reduceAdd]
       have f6 := hf 6 (by decide) (by kernel_rfl)
       generalize vals 6 = v6 at *
       subst f6
       have f5 := hf 5 (by decide) (by kernel_rfl)
       generalize vals 5 = v5 at *
       subst f5
       clear hf
       go_wp2_with (fail)
       exact RQ.mk rfl ⟨(by first | rfl | (simp [FS50_6_9]; done) | (simp [FS50_6_9, *]; done) | (simp [FS50_6_9, gotV]; done) | (simp [FS50_6_9, gotV]; omega)), fun h => absurd h (by decide)⟩ (Below.refl _ _)
      | 8, _ =>
       injection ho with ho
       subst ho
       clear hl
       simp only [fillA, List.take, List.drop, put_none, Act.put, List.setIfInBounds_toArray, List.set_cons_zero, List.set_cons_succ, Nat.reduceAdd]
       have f7 := hf 7 (by decide) (by kernel_rfl)
       generalize vals 7 = v7 at *
       subst f7
       clear hf
       go_wp2_with (fail)
       exact RQ.mk rfl ⟨(by first | rfl | (simp [FS50_6_9]; done) | (simp [FS50_6_9, *]; done) | (simp [FS50_6_9, gotV]; done) | (simp [FS50_6_9, gotV]; omega)), fun h => absurd h (by decide)⟩ (Below.refl _ _)
      | 9, _ =>
       injection ho with ho
       subst ho
       clear hl
       simp only [fillA, List.take, List.drop, put_none, Act.put, List.setIfInBounds_toArray, List.set_cons_zero, List.set_cons_succ, Nat.reduceAdd]
       have f8 := hf 8 (by decide) (by kernel_rfl)
       generalize vals 8 = v8 at *
       subst f8
       have f7 := hf 7 (by decide) (by kernel_rfl)
       generalize vals 7 = v7 at *
       subst f7
       clear hf
       go_wp2_with (fail)
       exact RQ.mk rfl ⟨(by first | rfl | (simp [FS50_6_9]; done) | (simp [FS50_6_9, *]; done) | (simp [FS50_6_9, gotV]; done) | (simp [FS50_6_9, gotV]; omega)), fun h => absurd h (by decide)⟩ (Below.refl _ _)
      | 10, _ =>
       injection ho with ho
       subst ho
       clear hl
       simp only [fillA, List.take, List.drop, put_none, Act.put, List.setIfInBounds_toArray, List.set_cons_zero, List.set_cons_succ, Nat.reduceAdd]
       have f9 := hf 9 (by decide) (by kernel_rfl)
       generalize vals 9 = v9 at *
       subst f9
       have f7 := hf 7 (by decide) (by kernel_rfl)
       generalize vals 7 = v7 at *
       subst f7
       clear hf
       go_wp2_with (fail)
       exact RQ.mk rfl ⟨(by first | rfl | (simp [FS50_6_9]; done) | (simp [FS50_6_9, *]; done) | (simp [FS50_6_9, gotV]; done) | (simp [FS50_6_9, gotV]; omega)), fun h => absurd h (by decide)⟩ (Below.refl _ _)
      | 11, _ =>
       injection ho with ho
       subst ho
       clear hl
       simp only [fillA, List.take, List.drop, put_none, Act.put, List.setIfInBounds_toArray, List.set_cons_zero, List.set_cons_succ, Nat.reduceAdd]
       have f10 := hf 10 (by decide) (by kernel_rfl)
       generalize vals 10 = v10 at *
       subst f10
       clear hf
       go_wp2_with (fail)
       exact RQ.mk rfl ⟨(by first | rfl | (simp [FS50_6_9]; done) | (simp [FS50_6_9, *]; done) | (simp [FS50_6_9, gotV]; done) | (simp [FS50_6_9, gotV]; omega)), fun h => absurd h (by decide)⟩ (Below.refl _ _)
      | 12, _ =>
       injection ho with ho
       subst ho
       clear hl
       simp only [fillA, List.take, List.drop, put_none, Act.put, List.setIfInBounds_toArray, List.set_cons_zero, List.set_cons_succ, Nat.reduceAdd]
       have f11 := hf 11 (by decide) (by kernel_rfl)
       generalize vals 11 = v11 at *
       subst f11
       have f10 := hf 10 (by decide) (by kernel_rfl)
       generalize vals 10 = v10 at *
       subst f10
       clear hf
       have hc1 := cellOf hb1
       have hf1 := frozOf hb1
       have hz1 := sizeOf hb1
       try simp at hz1
       go_wp2_with (fail)
       exact RQ.mk rfl ⟨(by first | rfl | (simp [FS50_6_9]; done) | (simp [FS50_6_9, *]; done) | (simp [FS50_6_9, gotV]; done) | (simp [FS50_6_9, gotV]; omega)), fun h => absurd h (by decide)⟩ (Below.refl _ _)
      | 13, _ =>
       injection ho with ho
       subst ho
       clear hl
       simp only [fillA, List.take, List.drop, put_none, Act.put, List.setIfInBounds_toArray, List.set_cons_zero, List.set_cons_succ, Nat.reduceAdd]
       have f10 := hf 10 (by decide) (by kernel_rfl)
       generalize vals 10 = v10 at *
       subst f10
       clear hf
       go_wp2_with (fail)
       exact RQ.mk rfl ⟨(by first | rfl | (simp [FS50_6_9]; done) | (simp [FS50_6_9, *]; done) | (simp [FS50_6_9, gotV]; done) | (simp [FS50_6_9, gotV]; omega)), fun h => absurd h (by decide)⟩ (Below.refl _ _)
      | 14, _ =>
       injection ho with ho
       subst ho
       clear hl
       simp only [fillA, List.take, List.drop, put_none, Act.put, List.setIfInBounds_toArray, List.set_cons_zero, List.set_cons_succ, Nat.reduceAdd]
       have f13 := hf 13 (by decide) (by kernel_rfl)
       generalize vals 13 = v13 at *
       subst f13
       have f10 := hf 10 (by decide) (by kernel_rfl)
       generalize vals 10 = v10 at *
       subst f10
       clear hf
       go_wp2_with (fail)
       exact RQ.mk rfl ⟨(by first | rfl | (simp [FS50_6_9]; done) | (simp [FS50_6_9, *]; done) | (simp [FS50_6_9, gotV]; done) | (simp [FS50_6_9, gotV]; omega)), fun h => absurd h (by decide)⟩ (Below.refl _ _)
      | 15, _ =>
       injection ho with ho
       subst ho
       clear hl
       simp only [fillA, List.take, List.drop, put_none, Act.put, List.setIfInBounds_toArray, List.set_cons_zero, List.set_cons_succ, Nat.reduceAdd]
       have f12 := hf 12 (by decide) (by kernel_rfl)
       generalize vals 12 = v12 at *
       subst f12
       have f14 := hf 14 (by decide) (by kernel_rfl)
       generalize vals 14 = v14 at *
       subst f14
       have f10 := hf 10 (by decide) (by kernel_rfl)
       generalize vals 10 = v10 at *
       subst f10
       clear hf
       go_wp2_with (fail)
       exact RQ.mk rfl ⟨(by first | rfl | (simp [FS50_6_9]; done) | (simp [FS50_6_9, *]; done) | (simp [FS50_6_9, gotV]; done) | (simp [FS50_6_9, gotV]; omega)), fun h => absurd h (by decide)⟩ (Below.refl _ _)
      | 16, _ =>
       injection ho with ho
       subst ho
       clear hl
       simp only [fillA, List.take, List.drop, put_none, Act.put, List.setIfInBounds_toArray, List.set_cons_zero, List.set_cons_succ, Nat.reduceAdd]
       have f15 := hf 15 (by decide) (by kernel_rfl)
       generalize vals 15 = v15 at *
       subst f15
       have f10 := hf 10 (by decide) (by kernel_rfl)
       generalize vals 10 = v10 at *
       subst f10
       clear hf
       go_wp2_with (fail)
       exact RQ.mk rfl ⟨(by first | rfl | (simp [FS50_6_9]; done) | (simp [FS50_6_9, *]; done) | (simp [FS50_6_9, gotV]; done) | (simp [FS50_6_9, gotV]; omega)), fun h => absurd h (by decide)⟩ (Below.refl _ _)
      | 17, _ =>
       injection ho with ho
       subst ho
       clear hl
       simp only [fillA, List.take, List.drop, put_none, Act.put, List.setIfInBounds_toArray, List.set_cons_zero, List.set_cons_succ, Nat.reduceAdd]
       have f16 := hf 16 (by decide) (by kernel_rfl)
       generalize vals 16 = v16 at *
       subst f16
       have f10 := hf 10 (by decide) (by kernel_rfl)
       generalize vals 10 = v10 at *
       subst f10
       clear hf
       have hc1 := cellOf hb1
       have hf1 := frozOf hb1
       have hz1 := sizeOf hb1
       try simp at hz1
       go_wp2_with (fail)
       exact RQ.mk rfl ⟨(by first | rfl | (simp [FS50_6_9]; done) | (simp [FS50_6_9, *]; done) | (simp [FS50_6_9, gotV]; done) | (simp [FS50_6_9, gotV]; omega)), fun h => absurd h (by decide)⟩ (Below.refl _ _)
      | 18, _ =>
       injection ho with ho
       subst ho
       clear hl
       simp only [fillA, List.take, List.drop, put_none, Act.put, List.setIfInBounds_toArray, List.set_cons_zero, List.set_cons_succ, Nat.reduceAdd]
       have f10 := hf 10 (by decide) (by kernel_rfl)
       generalize vals 10 = v10 at *
       subst f10
       clear hf
       go_wp2_with (fail)
       exact RQ.mk rfl ⟨(by first | rfl | (simp [FS50_6_9]; done) | (simp [FS50_6_9, *]; done) | (simp [FS50_6_9, gotV]; done) | (simp [FS50_6_9, gotV]; omega)), fun h => absurd h (by decide)⟩ (Below.refl _ _)
      | 19, _ =>
       injection ho with ho
       subst ho
       clear hl
       simp only [fillA, List.take, List.drop, put_none, Act.put, List.setIfInBounds_toArray, List.set_cons_zero, List.set_cons_succ, Nat.reduceAdd]
       have f18 := hf 18 (by decide) (by kernel_rfl)
       generalize vals 18 = v18 at *
       subst f18
       have f10 := hf 10 (by decide) (by kernel_rfl)
       generalize vals 10 = v10 at *
       subst f10
       clear hf
       have hc1 := cellOf hb1
       have hf1 := frozOf hb1
       have hz1 := sizeOf hb1
       try simp at hz1
       go_wp2_with (fail)
       exact RQ.mk rfl ⟨(by first | rfl | (simp [FS50_6_9]; done) | (simp [FS50_6_9, *]; done) | (simp [FS50_6_9, gotV]; done) | (simp [FS50_6_9, gotV]; omega)), fun h => absurd h (by decide)⟩ (Below.refl _ _)
      | 20, _ =>
       injection ho with ho
       subst ho
       clear hl
       simp only [fillA, List.take, List.drop, put_none, Act.put, List.setIfInBounds_toArray, List.set_cons_zero, List.set_cons_succ, Nat.reduceAdd]
       have f10 := hf 10 (by decide) (by kernel_rfl)
       generalize vals 10 = v10 at *
       subst f10
       clear hf
       go_wp2_with (fail)
       exact RQ.mk rfl ⟨(by first | rfl | (simp [FS50_6_9]; done) | (simp [FS50_6_9, *]; done) | (simp [FS50_6_9, gotV]; done) | (simp [FS50_6_9, gotV]; omega)), fun h => absurd h (by decide)⟩ (Below.refl _ _)
      | 21, _ =>
       injection ho with ho
       subst ho
       clear hl
       simp only [fillA, List.take, List.drop, put_none, Act.put, List.setIfInBounds_toArray, List.set_cons_zero, List.set_cons_succ, Nat.reduceAdd]
       have f19 := hf 19 (by decide) (by kernel_rfl)
       generalize vals 19 = v19 at *
       subst f19
       have f20 := hf 20 (by decide) (by kernel_rfl)
       generalize vals 20 = v20 at *
       subst f20
       have f10 := hf 10 (by decide) (by kernel_rfl)
       generalize vals 10 = v10 at *
       subst f10
       clear hf
       go_wp2_with (fail)
       exact RQ.mk rfl ⟨(by first | rfl | (simp [FS50_6_9]; done) | (simp [FS50_6_9, *]; done) | (simp [FS50_6_9, gotV]; done) | (simp [FS50_6_9, gotV]; omega)), fun h => absurd h (by decide)⟩ (Below.refl _ _)
      | 22, _ =>
       injection ho with ho
       subst ho
       clear hl
       simp only [fillA, List.take, List.drop, put_none, Act.put, List.setIfInBounds_toArray, List.set_cons_zero, List.set_cons_succ, Nat.reduceAdd]
       have f21 := hf 21 (by decide) (by kernel_rfl)
       generalize vals 21 = v21 at *
       subst f21
       have f10 := hf 10 (by decide) (by kernel_rfl)
       generalize vals 10 = v10 at *
       subst f10
       clear hf
       go_wp2_with (fail)
       exact RQ.mk rfl ⟨(by first | rfl | (simp [FS50_6_9]; done) | (simp [FS50_6_9, *]; done) | (simp [FS50_6_9, gotV]; done) | (simp [FS50_6_9, gotV]; omega)), fun h => absurd h (by decide)⟩ (Below.refl _ _)
      | 23, _ =>
       injection ho with ho
       subst ho
       clear hl
       simp only [fillA, List.take, List.drop, put_none, Act.put, List.setIfInBounds_toArray, List.set_cons_zero, List.set_cons_succ, Nat.reduceAdd]
       have f22 := hf 22 (by decide) (by kernel_rfl)
       generalize vals 22 = v22 at *
       subst f22
       have f10 := hf 10 (by decide) (by kernel_rfl)
       generalize vals 10 = v10 at *
       subst f10
       clear hf
       have hc1 := cellOf hb1
       have hf1 := frozOf hb1
       have hz1 := sizeOf hb1
       try simp at hz1
       go_wp2_with (fail)
       exact RQ.mk rfl ⟨(by first | rfl | (simp [FS50_6_9]; done) | (simp [FS50_6_9, *]; done) | (simp [FS50_6_9, gotV]; done) | (simp [FS50_6_9, gotV]; omega)), fun h => absurd h (by decide)⟩ (Below.refl _ _)
      | 24, _ =>
       injection ho with ho
       subst ho
       clear hl
       simp only [fillA, List.take, List.drop, put_none, Act.put, List.setIfInBounds_toArray, List.set_cons_zero, List.set_cons_succ, Nat.reduceAdd]
       have f17 := hf 17 (by decide) (by kernel_rfl)
       generalize vals 17 = v17 at *
       subst f17
       have f23 := hf 23 (by decide) (by kernel_rfl)
       generalize vals 23 = v23 at *
       subst f23
       have f10 := hf 10 (by decide) (by kernel_rfl)
       generalize vals 10 = v10 at *
       subst f10
       clear hf
       go_wp2_with (fail)
       exact RQ.mk rfl ⟨(by first | rfl | (simp [FS50_6_9]; done) | (simp [FS50_6_9, *]; done) | (simp [FS50_6_9, gotV]; done) | (simp [FS50_6_9, gotV]; omega)), fun h => absurd h (by decide)⟩ (Below.refl _ _)
      | 25, _ =>
       injection ho with ho
       subst ho
       clear hl
       simp only [fillA, List.take, List.drop, put_none, Act.put, List.setIfInBounds_toArray, List.set_cons_zero, List.set_cons_succ, Nat.reduceAdd]
       have f10 := hf 10 (by decide) (by kernel_rfl)
       generalize vals 10 = v10 at *
       subst f10
       have f24 := hf 24 (by decide) (by kernel_rfl)
       generalize vals 24 = v24 at *
       subst f24
       have f7 := hf 7 (by decide) (by kernel_rfl)
       generalize vals 7 = v7 at *
       subst f7
       clear hf
       go_wp2_with (fail)
       exact RQ.mk rfl ⟨(by first | rfl | (simp [FS50_6_9]; done) | (simp [FS50_6_9, *]; done) | (simp [FS50_6_9, gotV]; done) | (simp [FS50_6_9, gotV]; omega)), fun h => absurd h (by decide)⟩ (Below.refl _ _)
      | 26, _ =>
       injection ho with ho
       subst ho
       clear hl
       simp only [fillA, List.take, List.drop, put_none, Act.put, List.setIfInBounds_toArray, List.set_cons_zero, List.set_cons_succ, Nat.reduceAdd]
       have f7 := hf 7 (by decide) (by kernel_rfl)
       generalize vals 7 = v7 at *
       subst f7
       have f25 := hf 25 (by decide) (by kernel_rfl)
       generalize vals 25 = v25 at *
       subst f25
       clear hf
       go_wp2_with (fail)
       exact RQ.mk rfl ⟨(by first | rfl | (simp [FS50_6_9]; done) | (simp [FS50_6_9, *]; done) | (simp [FS50_6_9, gotV]; done) | (simp [FS50_6_9, gotV]; omega)), fun h => absurd h (by decide)⟩ (Below.refl _ _)
      | m + 27, h => exact absurd h (by omega)
     ·intro vals w1 hb1 hf hd
      simp only [fillA, List.take, List.drop, put_none, Act.put, List.setIfInBounds_toArray, List.set_cons_zero, List.set_cons_succ, Nat.reduceAdd]
      clear hd
      have f0 := hf 0 (by decide)
      generalize vals 0 = v0 at *
      subst f0
      have f1 := hf 1 (by decide)
      generalize vals 1 = v1 at *
      subst f1
      have f2 := hf 2 (by decide)
      generalize vals 2 = v2 at *
      subst f2
      have f3 := hf 3 (by decide)
      generalize vals 3 = v3 at *
      subst f3
      have f4 := hf 4 (by decide)
      generalize vals 4 = v4 at *
      subst f4
      have f5 := hf 5 (by decide)
      generalize vals 5 = v5 at *
      subst f5
      have f6 := hf 6 (by decide)
      generalize vals 6 = v6 at *
      subst f6
      have f7 := hf 7 (by decide)
      generalize vals 7 = v7 at *
      subst f7
      have f8 := hf 8 (by decide)
      generalize vals 8 = v8 at *
      subst f8
      have f9 := hf 9 (by decide)
      generalize vals 9 = v9 at *
      subst f9
      have f10 := hf 10 (by decide)
      generalize vals 10 = v10 at *
      subst f10
      have f11 := hf 11 (by decide)
      generalize vals 11 = v11 at *
      subst f11
      have f12 := hf 12 (by decide)
      generalize vals 12 = v12 at *
      subst f12
      have f13 := hf 13 (by decide)
      generalize vals 13 = v13 at *
      subst f13
      have f14 := hf 14 (by decide)
      generalize vals 14 = v14 at *
      subst f14
      have f15 := hf 15 (by decide)
      generalize vals 15 = v15 at *
      subst f15
      have f16 := hf 16 (by decide)
      generalize vals 16 = v16 at *
      subst f16
      have f17 := hf 17 (by decide)
      generalize vals 17 = v17 at *
      subst f17
      have f18 := hf 18 (by decide)
      generalize vals 18 = v18 at *
      subst f18
      have f19 := hf 19 (by decide)
      generalize vals 19 = v19 at *
      subst f19
      have f20 := hf 20 (by decide)
      generalize vals 20 = v20 at *
      subst f20
      have f21 := hf 21 (by decide)
      generalize vals 21 = v21 at *
      subst f21
      have f22 := hf 22 (by decide)
      generalize vals 22 = v22 at *
      subst f22
      have f23 := hf 23 (by decide)
      generalize vals 23 = v23 at *
      subst f23
      have f24 := hf 24 (by decide)
      generalize vals 24 = v24 at *
      subst f24
      have f25 := hf 25 (by decide)
      generalize vals 25 = v25 at *
      subst f25
      have f26 := hf 26 (by decide)
      generalize vals 26 = v26 at *
      subst f26
      clear hf
      have hc1 := cellOf hb1
      have hf1 := frozOf hb1
      have hz1 := sizeOf hb1
      try simp at hz1
      go_wp2_with (fail)
      go_roundw
      case rel =>
       refine ⟨k + 2, by omega, by go_num, fun j hj => ?_, ?_, ?_, ?_, by (repeat' (first | exact Below.refl _ _ | assumption | refine Below.setCell ?_ ?_ _ | refine Below.drew ?_ | refine Below.alloc ?_ ?_ _ | refine Below.trans ?_ (Below.mono (by assumption) ?_) | (simp; done) | (simp; omega) | omega))⟩
       ·rcases Nat.lt_or_ge j (k + 1) with h | h
        ·exact HL.out j h
        ·obtain rfl : j = k + 1 := by omega
         rw [HV.out, HG.out, H2.out]; rfl
       all_goals first | (simp [go_sem, ↓IntWalk.iteOmega, *]; done) | (simp [go_sem, ↓IntWalk.iteOmega, *]; omega) | omega
      case measure => simp [intOf]; omega
    ·have H2 : Hid (ivLt y x = false) := by show _ = _; simpa [ivLt] using hl2
     go_wp2_with (fail)
     refine wp_region_w (n := 27) [] [] (FS50_6_10 d wr x y bx ox k xs.length cap w) rfl (by kernel_rfl) (fun _ _ d _ _ h => by cases d <;> exact h) ?_ ?_ ?_ ?_ ?_ ?_
     ·intro iq
      match iq with
      | 0 | 1 | 2 | 3 | 4 | 5 | 6 | 7 | 8 | 9 | 10 | 11 | 12 | 13 | 14 | 15 | 16 | 17 | 18 | 19 | 20 | 21 | 22 | 23 | 24 | 25 | 26 => exact Stable.const _
      | n + 27 => exact Stable.const _
     ·intro iq hi
      exact absurd hi (by simp)
     ·intro iq hi
      exact absurd hi (by simp)
     ·intro iq o hi hl ho vals w1 hb1 hf
      exact absurd hl (by simp)
     ·intro iq o hi hl ho vals w1 hb1 hf
      match iq, hi with
      | 0, _ =>
       injection ho with ho
       subst ho
       clear hl
       simp only [fillA, List.take, List.drop, put_none, Act.put, List.setIfInBounds_toArray, List.set_cons_zero, List.set_cons_succ, Nat.reduceAdd]
       clear hf
       go_wp2_with (fail)
       exact RQ.mk rfl ⟨(by first | rfl | (simp [FS50_6_10]; done) | (simp [FS50_6_10, *]; done) | (simp [FS50_6_10, gotV]; done) | (simp [FS50_6_10, gotV]; omega)), fun h => absurd h (by decide)⟩ (Below.refl _ _)
      | 1, _ =>
       injection ho with ho
       subst ho
       clear hl
       simp only [fillA, List.take, List.drop, put_none, Act.put, List.setIfInBounds_toArray, List.set_cons_zero, List.set_cons_succ, Nat.reduceAdd]
       have f0 := hf 0 (by decide) (by kernel_rfl)
       generalize vals 0 = v0 at *
       subst f0
       clear hf
       have hc1 := cellOf hb1
       have hf1 := frozOf hb1
       have hz1 := sizeOf hb1
       try simp at hz1
       go_wp2_with (fail)
       exact RQ.mk rfl ⟨(by first | rfl | (simp [FS50_6_10]; done) | (simp [FS50_6_10, *]; done) | (simp [FS50_6_10, gotV]; done) | (simp [FS50_6_10, gotV]; omega)), fun h => absurd h (by decide)⟩ (Below.refl _ _)
      | 2, _ =>
       injection ho with ho
       subst ho
       clear hl
       simp only [fillA, List.take, List.drop, put_none, Act.put, List.setIfInBounds_toArray, List.set_cons_zero, List.set_cons_succ, Nat.reduceAdd]
       clear hf
       go_wp2_with (fail)
       exact RQ.mk rfl ⟨(by first | rfl | (simp [FS50_6_10]; done) | (simp [FS50_6_10, *]; done) | (simp [FS50_6_10, gotV]; done) | (simp [FS50_6_10, gotV]; omega)), fun h => absurd h (by decide)⟩ (Below.refl _ _)
      | 3, _ =>
       injection ho with ho
       subst ho
       clear hl
       simp only [fillA, List.take, List.drop, put_none, Act.put, List.setIfInBounds_toArray, List.set_cons_zero, List.set_cons_succ, Nat.reduceAdd]
       have f1 := hf 1 (by decide) (by kernel_rfl)
       generalize vals 1 = v1 at *
       subst f1
       have f2 := hf 2 (by decide) (by kernel_rfl)
       generalize vals 2 = v2 at *
       subst f2
       clear hf
       go_wp2_with (fail)
       exact RQ.mk rfl ⟨(by first | rfl | (simp [FS50_6_10]; done) | (simp [FS50_6_10, *]; done) | (simp [FS50_6_10, gotV]; done) | (simp [FS50_6_10, gotV]; omega)), fun h => absurd h (by decide)⟩ (Below.refl _ _)
      | 4, _ =>
       injection ho with ho
       subst ho
       clear hl
       simp only [fillA, List.take, List.drop, put_none, Act.put, List.setIfInBounds_toArray, List.set_cons_zero, List.set_cons_succ, Nat.reduceAdd]
       have f3 := hf 3 (by decide) (by kernel_rfl)
       generalize vals 3 = v3 at *
       subst f3
       clear hf
       have hc1 := cellOf hb1
       have hf1 := frozOf hb1
       have hz1 := sizeOf hb1
       try simp at hz1
       go_wp2_with (fail)
       exact RQ.mk rfl ⟨(by first | rfl | (simp [FS50_6_10]; done) | (simp [FS50_6_10, *]; done) | (simp [FS50_6_10, gotV]; done) | (simp [FS50_6_10, gotV]; omega)), fun h => absurd h (by decide)⟩ (Below.refl _ _)
      | 5, _ =>
       injection ho with ho
       subst ho
       clear hl
       simp only [fillA, List.take, List.drop, put_none, Act.put, List.setIfInBounds_toArray, List.set_cons_zero, List.set_cons_succ, Nat.reduceAdd]
       have f4 := hf 4 (by decide) (by kernel_rfl)
       generalize vals 4 = v4 at *
       subst f4
       clear hf
       have hc1 := cellOf hb1
       have hf1 := frozOf hb1
       have hz1 := sizeOf hb1
       try simp at hz1
       go_wp2_with (first | (go_at_call 82; refine (c_spec_l13Good _ _ _ ).mono ?_; rintro e w' ⟨rfl, hb⟩; have hc := cellOf hb; have hf := frozOf hb; have hz := sizeOf hb; try simp at hz))
       exact RQ.mk rfl ⟨(by first | rfl | (simp [FS50_6_10]; done) | (simp [FS50_6_10, *]; done) | (simp [FS50_6_10, gotV]; done) | (simp [FS50_6_10, gotV]; omega)), fun h => absurd h (by decide)⟩ (by (repeat' (first | exact Below.refl _ _ | assumption | refine Below.setCell ?_ ?_ _ | refine Below.drew ?_ | refine Below.alloc ?_ ?_ _ | refine Below.trans ?_ (Below.mono (by assumption) ?_) | (simp; done) | (simp; omega) | omega)))
      | 6, _ =>
       injection ho with ho
       subst ho
       clear hl
       simp only [fillA, List.take, List.drop, put_none, Act.put, List.setIfInBounds_toArray, List.set_cons_zero, List.set_cons_succ, Nat.reduceAdd]
       have f5 := hf 5 (by decide) (by kernel_rfl)
       generalize vals 5 = v5 at *
       subst f5
       clear hf
       go_wp2_with (fail)
       exact RQ.mk rfl ⟨(by first | rfl | (simp [FS50_6_10]; done) | (simp [FS50_6_10, *]; done) | (simp [FS50_6_10, gotV]; done) | (simp [FS50_6_10, gotV]; omega)), fun h => absurd h (by decide)⟩ (Below.refl _ _)
      | 7, _ =>
       injection ho with ho
       subst ho
       clear hl
       simp only [fillA, List.take, List.drop, put_none, Act.put, List.setIfInBounds_toArray, List.set_cons_zero, List.set_cons_succ, Nat.reduceAdd]
       have f6 := hf 6 (by decide) (by kernel_rfl)
       generalize vals 6 = v6 at *
       subst f6
       have f5 := hf 5 (by decide) (by kernel_rfl)
       generalize vals 5 = v5 at *
       subst f5
       clear hf
       go_wp2_with (fail)
       exact RQ.mk rfl ⟨(by first | rfl | (simp [FS50_6_10]; done) | (simp [FS50_6_10, *]; done) | (simp [FS50_6_10, gotV]; done) | (simp [FS50_6_10, gotV]; omega)), fun h => absurd h (by decide)⟩ (Below.refl _ _)
      | 8, _ =>
       injection ho with ho
       subst ho
       clear hl
       simp only [fillA, List.take, List.drop, put_none, Act.put, List.setIfInBounds_toArray, List.set_cons_zero, List.set_cons_succ, Nat.reduceAdd]
       have f7 := hf 7 (by decide) (by kernel_rfl)
       generalize vals 7 = v7 at *
       subst f7
       clear hf
       go_wp2_with (fail)
       exact RQ.mk rfl ⟨(by first | rfl | (simp [FS50_6_10]; done) | (simp [FS50_6_10, *]; done) | (simp [FS50_6_10, gotV]; done) | (simp [FS50_6_10, gotV]; omega)), fun h => absurd h (by decide)⟩ (Below.refl _ _)
      | 9, _ =>
       injection ho with ho
       subst ho
       clear hl
       simp only [fillA, List.take, List.drop, put_none, Act.put, List.setIfInBounds_toArray, List.set_cons_zero, List.set_cons_succ, Nat.reduceAdd]
       have f8 := hf 8 (by decide) (by kernel_rfl)
       generalize vals 8 = v8 at *
       subst f8
       have f7 := hf 7 (by decide) (by kernel_rfl)
       generalize vals 7 = v7 at *
       subst f7
       clear hf
       go_wp2_with (fail)
       exact RQ.mk rfl ⟨(by first | rfl | (simp [FS50_6_10]; done) | (simp [FS50_6_10, *]; done) | (simp [FS50_6_10, gotV]; done) | (simp [FS50_6_10, gotV]; omega)), fun h => absurd h (by decide)⟩ (Below.refl _ _)
      | 10, _ =>
       injection ho with ho
       subst ho
       clear hl
       simp only [fillA, List.take, List.drop, put_none, Act.put, List.setIfInBounds_toArray, List.set_cons_zero, List.set_cons_succ, Nat.reduceAdd]
       have f9 := hf 9 (by decide) (by kernel_rfl)
       generalize vals 9 = v9 at *
       subst f9
       have f7 := hf 7 (by decide) (by kernel_rfl)
       generalize vals 7 = v7 at *
       subst f7
       clear hf
       go_wp2_with (fail)
       exact RQ.mk rfl ⟨(by first | rfl | (simp [FS50_6_10]; done) | (simp [FS50_6_10, *]; done) | (simp [FS50_6_10, gotV]; done) | (simp [FS50_6_10, gotV]; omega)), fun h => absurd h (by decide)⟩ (Below.refl _ _)
      | 11, _ =>
       injection ho with ho
       subst ho
       clear hl
       simp only [fillA, List.take, List.drop, put_none, Act.put, List.setIfInBounds_toArray, List.set_cons_zero, List.set_cons_succ, Nat.reduceAdd]
       have f10 := hf 10 (by decide) (by kernel_rfl)
       generalize vals 10 = v10 at *
       subst f10
       clear hf
       go_wp2_with (fail)
       exact RQ.mk rfl ⟨(by first | rfl | (simp [FS50_6_10]; done) | (simp [FS50_6_10, *]; done) | (simp [FS50_6_10, gotV]; done) | (simp [FS50_6_10, gotV]; omega)), fun h => absurd h (by decide)⟩ (Below.refl _ _)
      | 12, _ =>
       injection ho with ho
       subst ho
       clear hl
       simp only [fillA, List.take, List.drop, put_none, Act.put, List.setIfInBounds_toArray, List.set_cons_zero, List.set_cons_succ, Nat.reduceAdd]
       have f11 := hf 11 (by decide) (by kernel_rfl)
       generalize vals 11 = v11 at *
       subst f11
       have f10 := hf 10 (by decide) (by kernel_rfl)
       generalize vals 10 = v10 at *
       subst f10
       clear hf
       have hc1 := cellOf hb1
       have hf1 := frozOf hb1
       have hz1 := sizeOf hb1
       try simp at hz1
       go_wp2_with (fail)
       exact RQ.mk rfl ⟨(by first | rfl | (simp [FS50_6_10]; done) | (simp [FS50_6_10, *]; done) | (simp [FS50_6_10, gotV]; done) | (simp [FS50_6_10, gotV]; omega)), fun h => absurd h (by decide)⟩ (Below.refl _ _)
      | 13, _ =>
       injection ho with ho
       subst ho
       clear hl
       simp only [fillA, List.take, List.drop, put_none, Act.put, List.setIfInBounds_toArray, List.set_cons_zero, List.set_cons_succ, Nat.reduceAdd]
       have f10 := hf 10 (by decide) (by kernel_rfl)
       generalize vals 10 = v10 at *
       subst f10
       clear hf
       go_wp2_with (fail)
       exact RQ.mk rfl ⟨(by first | rfl | (simp [FS50_6_10]; done) | (simp [FS50_6_10, *]; done) | (simp [FS50_6_10, gotV]; done) | (simp [FS50_6_10, gotV]; omega)), fun h => absurd h (by decide)⟩ (Below.refl _ _)
      | 14, _ =>
       injection ho with ho
       subst ho
       clear hl
       simp only [fillA, List.take, List.drop, put_none, Act.put, List.setIfInBounds_toArray, List.set_cons_zero, List.set_cons_succ, Nat.reduceAdd]
       have f13 := hf 13 (by decide) (by kernel_rfl)
       generalize vals 13 = v13 at *
       subst f13
       have f10 := hf 10 (by decide) (by kernel_rfl)
       generalize vals 10 = v10 at *
       subst f10
       clear hf
       go_wp2_with (fail)
       exact RQ.mk rfl ⟨(by first | rfl | (simp [FS50_6_10]; done) | (simp [FS50_6_10, *]; done) | (simp [FS50_6_10, gotV]; done) | (simp [FS50_6_10, gotV]; omega)), fun h => absurd h (by decide)⟩ (Below.refl _ _)
      | 15, _ =>
       injection ho with ho
       subst ho
       clear hl
       simp only [fillA, List.take, List.drop, put_none, Act.put, List.setIfInBounds_toArray, List.set_cons_zero, List.set_cons_succ, Nat.reduceAdd]
       have f12 := hf 12 (by decide) (by kernel_rfl)
       generalize vals 12 = v12 at *
       subst f12
       have f14 := hf 14 (by decide) (by kernel_rfl)
       generalize vals 14 = v14 at *
       subst f14
       have f10 := hf 10 (by decide) (by kernel_rfl)
       generalize vals 10 = v10 at *
       subst f10
       clear hf
       go_wp2_with (fail)
       exact RQ.mk rfl ⟨(by first | rfl | (simp [FS50_6_10]; done) | (simp [FS50_6_10, *]; done) | (simp [FS50_6_10, gotV]; done) | (simp [FS50_6_10, gotV]; omega)), fun h => absurd h (by decide)⟩ (Below.refl _ _)
      | 16, _ =>
       injection ho with ho
       subst ho
       clear hl
       simp only [fillA, List.take, List.drop, put_none, Act.put, List.setIfInBounds_toArray, List.set_cons_zero, List.set_cons_succ, Nat.reduceAdd]
       have f15 := hf 15 (by decide) (by kernel_rfl)
       generalize vals 15 = v15 at *
       subst f15
       have f10 := hf 10 (by decide) (by kernel_rfl)
       generalize vals 10 = v10 at *
       subst f10
       clear hf
       go_wp2_with (fail)
       exact RQ.mk rfl ⟨(by first | rfl | (simp [FS50_6_10]; done) | (simp [FS50_6_10, *]; done) | (simp [FS50_6_10, gotV]; done) | (simp [FS50_6_10, gotV]; omega)), fun h => absurd h (by decide)⟩ (Below.refl _ _)
      | 17, _ =>
       injection ho with ho
       subst ho
       clear hl
       simp only [fillA, List.take, List.drop, put_none, Act.put, List.setIfInBounds_toArray, List.set_cons_zero, List.set_cons_succ, Nat.reduceAdd]
       have f16 := hf 16 (by decide) (by kernel_rfl)
       generalize vals 16 = v16 at *
       subst f16
       have f10 := hf 10 (by decide) (by kernel_rfl)
       generalize vals 10 = v10 at *
       subst f10
       clear hf
       have hc1 := cellOf hb1
       have hf1 := frozOf hb1
       have hz1 := sizeOf hb1
       try simp at hz1
       go_wp2_with (fail)
       exact RQ.mk rfl ⟨(by first | rfl | (simp [FS50_6_10]; done) | (simp [FS50_6_10, *]; done) | (simp [FS50_6_10, gotV]; done) | (simp [FS50_6_10, gotV]; omega)), fun h => absurd h (by decide)⟩ (Below.refl _ _)
      | 18, _ =>
       injection ho with ho
       subst ho
       clear hl
       simp only [fillA, List.take, List.drop, put_none, Act.put, List.setIfInBounds_toArray, List.set_cons_zero, List.set_cons_succ, Nat.reduceAdd]
       have f10 := hf 10 (by decide) (by kernel_rfl)
       generalize vals 10 = v10 at *
       subst f10
       clear hf
       go_wp2_with (fail)
       exact RQ.mk rfl ⟨(by first | rfl | (simp [FS50_6_10]; done) | (simp [FS50_6_10, *]; done) | (simp [FS50_6_10, gotV]; done) | (simp [FS50_6_10, gotV]; omega)), fun h => absurd h (by decide)⟩ (Below.refl _ _)
      | 19, _ =>
       injection ho with ho
       subst ho
       clear hl
       simp only [fillA, List.take, List.drop, put_none, Act.put, List.setIfInBounds_toArray, List.set_cons_zero, List.set_cons_succ, Nat.reduceAdd]
       have f18 := hf 18 (by decide) (by kernel_rfl)
       generalize vals 18 = v18 at *
       subst f18
       have f10 := hf 10 (by decide) (by kernel_rfl)
       generalize vals 10 = v10 at *
       subst f10
       clear hf
       have hc1 := cellOf hb1
       have hf1 := frozOf hb1
       have hz1 := sizeOf hb1
       try simp at hz1
       go_wp2_with (fail)
       exact RQ.mk rfl ⟨(by first | rfl | (simp [FS50_6_10]; done) | (simp [FS50_6_10, *]; done) | (simp [FS50_6_10, gotV]; done) | (simp [FS50_6_10, gotV]; omega)), fun h => absurd h (by decide)⟩ (Below.refl _ _)
      | 20, _ =>
       injection ho with ho
       subst ho
       clear hl
       simp only [fillA, List.take, List.drop, put_none, Act.put, List.setIfInBounds_toArray, List.set_cons_zero, List.set_cons_succ, Nat.reduceAdd]
       have f10 := hf 10 (by decide) (by kernel_rfl)
       generalize vals 10 = v10 at *
       subst f10
       clear hf
       go_wp2_with (fail)
       exact RQ.mk rfl ⟨(by first | rfl | (simp [FS50_6_10]; done) | (simp [FS50_6_10, *]; done) | (simp [FS50_6_10, gotV]; done) | (simp [FS50_6_10, gotV]; omega)), fun h => absurd h (by decide)⟩ (Below.refl _ _)
      | 21, _ =>
       injection ho with ho
       subst ho
       clear hl
       simp only [fillA, List.take, List.drop, put_none, Act.put, List.setIfInBounds_toArray, List.set_cons_zero, List.set_cons_succ, Nat.reduceAdd]
       have f19 := hf 19 (by decide) (by kernel_rfl)
       generalize vals 19 = v19 at *
       subst f19
       have f20 := hf 20 (by decide) (by kernel_rfl)
       generalize vals 20 = v20 at *
       subst f20
       have f10 := hf 10 (by decide) (by kernel_rfl)
       generalize vals 10 = v10 at *
       subst f10
       clear hf
       go_wp2_with (fail)
       exact RQ.mk rfl ⟨(by first | rfl | (simp [FS50_6_10]; done) | (simp [FS50_6_10, *]; done) | (simp [FS50_6_10, gotV]; done) | (simp [FS50_6_10, gotV]; omega)), fun h => absurd h (by decide)⟩ (Below.refl _ _)
      | 22, _ =>
       injection ho with ho
       subst ho
       clear hl
       simp only [fillA, List.take, List.drop, put_none, Act.put, List.setIfInBounds_toArray, List.set_cons_zero, List.set_cons_succ, Nat.reduceAdd]
       have f21 := hf 21 (by decide) (by kernel_rfl)
       generalize vals 21 = v21 at *
       subst f21
       have f10 := hf 10 (by decide) (by kernel_rfl)
       generalize vals 10 = v10 at *
       subst f10
       clear hf
       go_wp2_with (fail)
       exact RQ.mk rfl ⟨(by first | rfl | (simp [FS50_6_10]; done) | (simp [FS50_6_10, *]; done) | (simp [FS50_6_10, gotV]; done) | (simp [FS50_6_10, gotV]; omega)), fun h => absurd h (by decide)⟩ (Below.refl _ _)
      | 23, _ =>
       injection ho with ho
       subst ho
       clear hl
       simp only [fillA, List.take, List.drop, put_none, Act.put, List.setIfInBounds_toArray, List.set_cons_zero, List.set_cons_succ, Nat.reduceAdd]
       have f22 := hf 22 (by decide) (by kernel_rfl)
       generalize vals 22 = v22 at *
       subst f22
       have f10 := hf 10 (by decide) (by kernel_rfl)
       generalize vals 10 = v10 at *
       subst f10
       clear hf
       have hc1 := cellOf hb1
       have hf1 := frozOf hb1
       have hz1 := sizeOf hb1
       try simp at hz1
       go_wp2_with (fail)
       exact RQ.mk rfl ⟨(by first | rfl | (simp [FS50_6_10]; done) | (simp [FS50_6_10, *]; done) | (simp [FS50_6_10, gotV]; done) | (simp [FS50_6_10, gotV]; omega)), fun h => absurd h (by decide)⟩ (Below.refl _ _)
      | 24, _ =>
       injection ho with ho
       subst ho
       clear hl
       simp only [fillA, List.take, List.drop, put_none, Act.put, List.setIfInBounds_toArray, List.set_cons_zero, List.set_cons_succ, Nat.reduceAdd]
       have f17 := hf 17 (by decide) (by kernel_rfl)
       generalize vals 17 = v17 at *
       subst f17
       have f23 := hf 23 (by decide) (by kernel_rfl)
       generalize vals 23 = v23 at *
       subst f23
       have f10 := hf 10 (by decide) (by kernel_rfl)
       generalize vals 10 = v10 at *
       subst f10
       clear hf
       go_wp2_with (fail)
       exact RQ.mk rfl ⟨(by first | rfl | (simp [FS50_6_10]; done) | (simp [FS50_6_10, *]; done) | (simp [FS50_6_10, gotV]; done) | (simp [FS50_6_10, gotV]; omega)), fun h => absurd h (by decide)⟩ (Below.refl _ _)
      | 25, _ =>
       injection ho with ho
       subst ho
       clear hl
       simp only [fillA, List.take, List.drop, put_none, Act.put, List.setIfInBounds_toArray, List.set_cons_zero, List.set_cons_succ, Nat.reduceAdd]
       have f10 := hf 10 (by decide) (by kernel_rfl)
       generalize vals 10 = v10 at *
       subst f10
       have f24 := hf 24 (by decide) (by kernel_rfl)
       generalize vals 24 = v24 at *
       subst f24
       have f7 := hf 7 (by decide) (by kernel_rfl)
       generalize vals 7 = v7 at *
       subst f7
       clear hf
       go_wp2_with (fail)
       exact RQ.mk rfl ⟨(by first | rfl | (simp [FS50_6_10]; done) | (simp [FS50_6_10, *]; done) | (simp [FS50_6_10, gotV]; done) | (simp [FS50_6_10, gotV]; omega)), fun h => absurd h (by decide)⟩ (Below.refl _ _)
      | 26, _ =>
       injection ho with ho
       subst ho
       clear hl
       simp only [fillA, List.take, List.drop, put_none, Act.put, List.setIfInBounds_toArray, List.set_cons_zero, List.set_cons_succ, Nat.reduceAdd]
       have f7 := hf 7 (by decide) (by kernel_rfl)
       generalize vals 7 = v7 at *
       subst f7
       have f25 := hf 25 (by decide) (by kernel_rfl)
       generalize vals 25 = v25 at *
       subst f25
       clear hf
       go_wp2_with (fail)
       exact RQ.mk rfl ⟨(by first | rfl | (simp [FS50_6_10]; done) | (simp [FS50_6_10, *]; done) | (simp [FS50_6_10, gotV]; done) | (simp [FS50_6_10, gotV]; omega)), fun h => absurd h (by decide)⟩ (Below.refl _ _)
      | m + 27, h => exact absurd h (by omega)
     ·intro vals w1 hb1 hf hd
      simp only [fillA, List.take, List.drop, put_none, Act.put, List.setIfInBounds_toArray, List.set_cons_zero, List.set_cons_succ, Nat.reduceAdd]
      clear hd
      have f0 := hf 0 (by decide)
      generalize vals 0 = v0 at *
      subst f0
      have f1 := hf 1 (by decide)
      generalize vals 1 = v1 at *
      subst f1
      have f2 := hf 2 (by decide)
      generalize vals 2 = v2 at *
      subst f2
      have f3 := hf 3 (by decide)
      generalize vals 3 = v3 at *
      subst f3
      have f4 := hf 4 (by decide)
      generalize vals 4 = v4 at *
      subst f4
      have f5 := hf 5 (by decide)
      generalize vals 5 = v5 at *
      subst f5
      have f6 := hf 6 (by decide)
      generalize vals 6 = v6 at *
      subst f6
      have f7 := hf 7 (by decide)
      generalize vals 7 = v7 at *
      subst f7
      have f8 := hf 8 (by decide)
      generalize vals 8 = v8 at *
      subst f8
      have f9 := hf 9 (by decide)
      generalize vals 9 = v9 at *
      subst f9
      have f10 := hf 10 (by decide)
      generalize vals 10 = v10 at *
      subst f10
      have f11 := hf 11 (by decide)
      generalize vals 11 = v11 at *
      subst f11
      have f12 := hf 12 (by decide)
      generalize vals 12 = v12 at *
      subst f12
      have f13 := hf 13 (by decide)
      generalize vals 13 = v13 at *
      subst f13
      have f14 := hf 14 (by decide)
      generalize vals 14 = v14 at *
      subst f14
      have f15 := hf 15 (by decide)
      generalize vals 15 = v15 at *
      subst f15
      have f16 := hf 16 (by decide)
      generalize vals 16 = v16 at *
      subst f16
      have f17 := hf 17 (by decide)
      generalize vals 17 = v17 at *
      subst f17
      have f18 := hf 18 (by decide)
      generalize vals 18 = v18 at *
      subst f18
      have f19 := hf 19 (by decide)
      generalize vals 19 = v19 at *
      subst f19
      have f20 := hf 20 (by decide)
      generalize vals 20 = v20 at *
      subst f20
      have f21 := hf 21 (by decide)
      generalize vals 21 = v21 at *
      subst f21
      have f22 := hf 22 (by decide)
      generalize vals 22 = v22 at *
      subst f22
      have f23 := hf 23 (by decide)
      generalize vals 23 = v23 at *
      subst f23
      have f24 := hf 24 (by decide)
      generalize vals 24 = v24 at *
      subst f24
      have f25 := hf 25 (by decide)
      generalize vals 25 = v25 at *
      subst f25
      have f26 := hf 26 (by decide)
      generalize vals 26 = v26 at *
      subst f26
      clear hf
      have hc1 := cellOf hb1
      have hf1 := frozOf hb1
      have hz1 := sizeOf hb1
      try simp at hz1
      go_wp2_with (fail)
      go_ret
      exact ⟨ret_bool (by rw [brB, HB.out (by rw [HV.out, HG.out, H2.out]; rfl)]; simp), by (repeat' (first | exact Below.refl _ _ | assumption | refine Below.setCell ?_ ?_ _ | refine Below.drew ?_ | refine Below.alloc ?_ ?_ _ | refine Below.trans ?_ (Below.mono (by assumption) ?_) | (simp; done) | (simp; omega) | omega))⟩
  ·obtain rfl : k = xs.length := by omega
   have hp0' : far wr w.heap.size 0 = _ := hp0
   have hp1' : far wr w.heap.size 1 = _ := hp1
   have HD := hid (vB_all (good := ivOk) (lt := ivLt) (n := 6) hl)
   go_wp2_with (first | (go_at_call 81; refine (c_spec_l1In _ _ _ _ ).mono ?_; rintro e w' ⟨rfl, hb⟩; have hc := cellOf hb; have hf := frozOf hb; have hz := sizeOf hb; try simp at hz))
   all_goals go_ret
   all_goals exact ⟨ret_bool (by rw [brB, HD.out]; simp [*]; try omega), by (repeat' (first | exact Below.refl _ _ | assumption | refine Below.setCell ?_ ?_ _ | refine Below.drew ?_ | refine Below.alloc ?_ ?_ _ | refine Below.trans ?_ (Below.mono (by assumption) ?_) | (simp; done) | (simp; omega) | omega))⟩

end Go.Proofs.Yteciijnpfapmhaa
namespace Go.Proofs.Yteciijnpfapmhaa
set_option linter.unusedSimpArgs false
set_option linter.unusedVariables false
open Go.RowKit

set_option maxHeartbeats 2000000 in
theorem c_spec_l15First (B : Option Addr) (pl : List Int) (n cap : Nat) (m : Int) (w : World) (hr : Rds cIn 1 w B pl) (hnl : pl.length = n) (hn : pl.length ≤ 9223372036854775807) :
  Calls Try.prog 67 #[.slice B n cap, .int .i64 m] w fun e w' => e = .returned (.int .i64 (firstO pl m)) ∧ Below w.heap.size w w' := by
 subst hnl
 go_enter Try.func67, Try.ntmps67
 go_wp2_with (fail)
 go_loopw [5] (fun i wr => ∃ k : Nat, k ≤ pl.length ∧ i = .int .i64 k ∧ (∀ j (hj : j < k) (hl : j < pl.length), pl[j] < m) ∧ Below w.heap.size w wr) (fun i _ => pl.length - (intOf i).toNat)
 case atStart => exact ⟨0, Nat.zero_le _, rfl, fun j hj => absurd hj (Nat.not_lt_zero j), by (repeat' (first | exact Below.refl _ _ | assumption | refine Below.setCell ?_ ?_ _ | refine Below.drew ?_ | refine Below.alloc ?_ ?_ _ | refine Below.trans ?_ (Below.mono (by assumption) ?_) | (simp; done) | (simp; omega) | omega))⟩
 case round =>
  obtain ⟨k, hk, rfl, hl, hbr⟩ := hrel
  have HL := hid hl
  clear hl
  have hc := cellOf hbr
  have hf := frozOf hbr
  have hz := sizeOf hbr
  by_cases hlt : k < pl.length
  ·obtain ⟨bx, ox, rfl, hbx, hcx⟩ := hr k pl[k] (List.getElem?_eq_getElem hlt)
   have hx0 := hcx 0 _ rfl
   simp only [Nat.add_zero, Nat.mul_one] at hx0
   have HH := hid (fun e => firstO_hit (m := m) hlt (fun j hj => HL.out j hj (by omega)) e)
   have HE := hid (fun e : pl[k] < m => fun j (hj : j < k + 1) (hjl : j < pl.length) => show pl[j] < m by
    by_cases he : j < k
    ·exact HL.out j he hjl
    ·have : j = k := by omega
     subst this
     exact e)
   clear hcx hr
   generalize pl[k] = x at *
   by_cases hm : m ≤ x
   ·have HV := hid (HH.out hm)
    clear HH HE
    go_wp2_with (fail)
    go_ret
    exact ⟨ret_int (by rw [HV.out]), by (repeat' (first | exact Below.refl _ _ | assumption | refine Below.setCell ?_ ?_ _ | refine Below.drew ?_ | refine Below.alloc ?_ ?_ _ | refine Below.trans ?_ (Below.mono (by assumption) ?_) | (simp; done) | (simp; omega) | omega))⟩
   ·have HV := hid (HE.out (by omega))
    clear HH HE
    go_wp2_with (fail)
    go_roundw
    case rel => exact ⟨k + 1, by omega, by go_num, HV.out, by (repeat' (first | exact Below.refl _ _ | assumption | refine Below.setCell ?_ ?_ _ | refine Below.drew ?_ | refine Below.alloc ?_ ?_ _ | refine Below.trans ?_ (Below.mono (by assumption) ?_) | (simp; done) | (simp; omega) | omega))⟩
    case measure => simp [intOf]; omega
  ·obtain rfl : k = pl.length := by omega
   have HV := hid (firstO_none (m := m) (fun j hj => HL.out j hj hj))
   go_wp2_with (fail)
   go_ret
   exact ⟨ret_int (by rw [HV.out]), by (repeat' (first | exact Below.refl _ _ | assumption | refine Below.setCell ?_ ?_ _ | refine Below.drew ?_ | refine Below.alloc ?_ ?_ _ | refine Below.trans ?_ (Below.mono (by assumption) ?_) | (simp; done) | (simp; omega) | omega))⟩

end Go.Proofs.Yteciijnpfapmhaa
namespace Go.Proofs.Yteciijnpfapmhaa
set_option linter.unusedSimpArgs false
set_option linter.unusedVariables false
open Go.RowKit

def lastI (r : Option Int) : Int := match r with | some u => u | none => -1

end Go.Proofs.Yteciijnpfapmhaa
namespace Go.Proofs.Yteciijnpfapmhaa
set_option linter.unusedSimpArgs false
set_option linter.unusedVariables false
open Go.RowKit

theorem FreshA.emp2 {α : Type} {cf : α → List Value} {sz : Nat} {T : TypeId} {w w' : World} {c : Array Value} {t : TypeId} (hb : Below (w.heap.size + 2) ((w.alloc (.cells c t)).alloc (.cells #[] T)) w') : FreshA cf sz T (w.heap.size + 1) w' (some ⟨w.heap.size + 1, 0, none⟩) 0 ([] : List α) := by
 have h := FreshA.emp (cf := cf) (sz := sz) (w := w.alloc (.cells c t)) (w' := w') (T := T) (by simpa using hb)
 simpa using h

end Go.Proofs.Yteciijnpfapmhaa
namespace Go.Proofs.Yteciijnpfapmhaa
set_option linter.unusedSimpArgs false
set_option linter.unusedVariables false
open Go.RowKit

set_option maxHeartbeats 400000 in
theorem c_spec_IsValidBridge (d : Int) (A : Option Addr) (xs : List (Int × Int)) (cap : Nat) (w : World) (hx : Rds cIv 2 w A xs) (hn : xs.length ≤ 9223372036854775807) :
  Calls Try.prog 15 #[.agg #[.int .i64 d, .slice A xs.length cap]] w fun e w' => e = .returned (.bool (brB d xs)) ∧ Below w.heap.size w w' := by
 go_enter Try.func15, Try.ntmps15
 go_wp2_with (first | (go_at_call 50; refine (c_spec_l15Good _ _ _ _ _ (by first | assumption | exact Rds.below hx (by (repeat' (first | exact Below.refl _ _ | assumption | refine Below.setCell ?_ ?_ _ | refine Below.drew ?_ | refine Below.alloc ?_ ?_ _ | refine Below.trans ?_ (Below.mono (by assumption) ?_) | (simp; done) | (simp; omega) | omega)))) (by omega)).mono ?_; rintro e w' ⟨rfl, hb⟩; have hc := cellOf hb; have hf := frozOf hb; have hz := sizeOf hb; try simp at hz))
 all_goals go_ret
 all_goals
  refine ⟨ret_bool ?_, ?_⟩
  ·first | rfl | omega | (simp []; done) | (simp []; omega) | (simp []; (repeat' split) <;> (first | omega | (simp; done) | (simp; omega))) | (simp_all []; done) | (simp_all []; omega)
  ·(repeat' (first | exact Below.refl _ _ | assumption | refine Below.setCell ?_ ?_ _ | refine Below.drew ?_ | refine Below.alloc ?_ ?_ _ | refine Below.trans ?_ (Below.mono (by assumption) ?_) | (simp; done) | (simp; omega) | omega))

end Go.Proofs.Yteciijnpfapmhaa
