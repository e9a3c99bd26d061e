import Derived.Test.YtpaclngjmdacjaaQP01
import Derived.Maps.AppendAt
namespace Go.Proofs.Ytpaclngjmdacjaa
set_option linter.unusedSimpArgs false
set_option linter.unusedVariables false
open Go.RowKit

/-- A slice that reads as a list, element by element: 'cf' gives an element's cells, 'sz' of them. -/
def Rds {α : Type} (cf : α → List Value) (sz : Nat) (w : World) (A : Option Addr) (xs : List α) : Prop :=
  ∀ i x, xs[i]? = some x → ∃ b off, A = some ⟨b, off, none⟩ ∧ b < w.heap.size ∧ ∀ j v, (cf x)[j]? = some v → w.cell? ⟨b, off + i * sz + j, none⟩ = some v
/-- Block g is a row of the call's own, of 'cap' elements, whose first ones are xs. -/
def OwnS {α : Type} (cf : α → List Value) (sz : Nat) (T : TypeId) (w : World) (g cap : Nat) (xs : List α) : Prop :=
  ∃ cur : Array Value, w.heap[g]? = some (.cells cur T (0, 0)) ∧ cur.size = cap * sz ∧ xs.length ≤ cap ∧ cap ≤ maxLen ∧ ∀ i x, xs[i]? = some x → ∀ j v, (cf x)[j]? = some v → cur[i * sz + j]? = some v
/-- A slice of the call's own: nil and empty, or at the head of a row of its own from block B on. -/
def FreshA {α : Type} (cf : α → List Value) (sz : Nat) (T : TypeId) (B : Nat) (w : World) (A : Option Addr) (cap : Nat) (xs : List α) : Prop :=
  (A = none ∧ xs = [] ∧ cap = 0) ∨ ∃ g, A = some ⟨g, 0, none⟩ ∧ B ≤ g ∧ OwnS cf sz T w g cap xs
def Lo (B : Nat) (A : Option Addr) : Prop := ∀ a, A = some a → B ≤ a.block
def Hi (n : Nat) (A : Option Addr) : Prop := ∀ a, A = some a → a.block < n
def blkO (A : Option Addr) : Option Nat := A.map (·.block)

section
variable {α : Type} {cf : α → List Value} {sz : Nat} {T : TypeId} {w w' : World} {A : Option Addr} {xs : List α} {g cap B : Nat}

theorem Rds.below (h : Rds cf sz w A xs) (hb : Below w.heap.size w w') : Rds cf sz w' A xs := by
  intro i x hx
  obtain ⟨b, off, hA, hlt, hc⟩ := h i x hx
  exact ⟨b, off, hA, Nat.lt_of_lt_of_le hlt hb.size, fun j v hv => (hb.cell (p := ⟨b, off + i * sz + j, none⟩) hlt).trans (hc j v hv)⟩
theorem Rds.nil : Rds cf sz w A [] := by
  intro i x hx
  simp at hx
theorem Rds.grown {row : Option Nat} (h : Rds cf sz w A xs) (hg : w.grownBy w' row) (hne : ∀ a, A = some a → some a.block ≠ row) : Rds cf sz w' A xs := by
  intro i x hx
  obtain ⟨b, off, hA, hlt, hc⟩ := h i x hx
  exact ⟨b, off, hA, Nat.lt_of_lt_of_le hlt hg.size, fun j v hv => (World.cell?_of_block (a := ⟨b, off + i * sz + j, none⟩) (hg.block b hlt (hne _ hA))).trans (hc j v hv)⟩
theorem OwnS.lt (h : OwnS cf sz T w g cap xs) : g < w.heap.size := by
  obtain ⟨cur, h1, _⟩ := h
  rcases Nat.lt_or_ge g w.heap.size with hl | hl
  · exact hl
  · rw [Array.getElem?_eq_none hl] at h1; cases h1
theorem OwnS.rds (h : OwnS cf sz T w g cap xs) : Rds cf sz w (some ⟨g, 0, none⟩) xs := by
  intro i x hx
  have hlt := h.lt
  obtain ⟨cur, h1, h2, h3, h4, h5⟩ := h
  refine ⟨g, 0, rfl, hlt, fun j v hv => ?_⟩
  have := h5 i x hx j v hv
  simp [World.cell?, h1, this]
theorem OwnS.block (h : OwnS cf sz T w g cap xs) (hb : w'.heap[g]? = w.heap[g]?) : OwnS cf sz T w' g cap xs := by
  obtain ⟨cur, h1, h2⟩ := h
  exact ⟨cur, hb.trans h1, h2⟩
theorem OwnS.below (h : OwnS cf sz T w g cap xs) (hb : Below w.heap.size w w') : OwnS cf sz T w' g cap xs := h.block (hb.block g h.lt)
theorem OwnS.grown {row : Option Nat} (h : OwnS cf sz T w g cap xs) (hg : w.grownBy w' row) (hne : some g ≠ row) : OwnS cf sz T w' g cap xs := h.block (hg.block g h.lt hne)
theorem OwnS.cell (h : OwnS cf sz T w g cap xs) (j : Nat) (hj : j < cap * sz) : ∃ v, w.cell? ⟨g, j, none⟩ = some v := by
  obtain ⟨cur, h1, h2, _⟩ := h
  exact ⟨cur[j]'(by omega), by simp [World.cell?, h1, h2, hj]⟩
theorem OwnS.frozen (h : OwnS cf sz T w g cap xs) (j : Nat) : w.frozen? ⟨g, j, none⟩ = false := by
  obtain ⟨cur, h1, _⟩ := h
  simp [World.frozen?, h1]
theorem OwnS.empty (h : OwnS cf sz T w g cap xs) : OwnS cf sz T w g cap ([] : List α) := by
  obtain ⟨cur, h1, h2, h3, h4, h5⟩ := h
  exact ⟨cur, h1, h2, Nat.zero_le _, h4, fun i x hx => by simp at hx⟩
theorem FreshA.rds (h : FreshA cf sz T B w A cap xs) : Rds cf sz w A xs := by
  rcases h with ⟨rfl, rfl, rfl⟩ | ⟨g, rfl, _, h⟩
  · exact Rds.nil
  · exact h.rds
theorem FreshA.lo (h : FreshA cf sz T B w A cap xs) : Lo B A := by
  rcases h with ⟨rfl, _, _⟩ | ⟨g, rfl, hB, _⟩
  · intro a ha; cases ha
  · intro a ha; cases ha; exact hB
theorem FreshA.hi (h : FreshA cf sz T B w A cap xs) : Hi w.heap.size A := by
  rcases h with ⟨rfl, _, _⟩ | ⟨g, rfl, _, h⟩
  · intro a ha; cases ha
  · intro a ha; cases ha; exact h.lt
theorem FreshA.below (h : FreshA cf sz T B w A cap xs) (hb : Below w.heap.size w w') : FreshA cf sz T B w' A cap xs := by
  rcases h with h | ⟨g, hA, hB, h⟩
  · exact .inl h
  · exact .inr ⟨g, hA, hB, h.below hb⟩
theorem FreshA.grown {row : Option Nat} (h : FreshA cf sz T B w A cap xs) (hg : w.grownBy w' row) (hne : ∀ a, A = some a → some a.block ≠ row) : FreshA cf sz T B w' A cap xs := by
  rcases h with h | ⟨g, rfl, hB, h⟩
  · exact .inl h
  · exact .inr ⟨g, rfl, hB, h.grown hg (hne _ rfl)⟩
theorem FreshA.mono {B' : Nat} (h : FreshA cf sz T B w A cap xs) (hB : B' ≤ B) : FreshA cf sz T B' w A cap xs := by
  rcases h with h | ⟨g, rfl, hg, h⟩
  · exact .inl h
  · exact .inr ⟨g, rfl, Nat.le_trans hB hg, h⟩
theorem Hi.mono {n m : Nat} (h : Hi n A) (hm : n ≤ m) : Hi m A := fun a ha => Nat.lt_of_lt_of_le (h a ha) hm
theorem Lo.mono {n m : Nat} (h : Lo n A) (hm : m ≤ n) : Lo m A := fun a ha => Nat.le_trans hm (h a ha)
/-- two slices of which one lies below, the other above -/
theorem apart_lh {A' : Option Addr} {n : Nat} (h : Hi n A) (h' : Lo n A') : ∀ a, A = some a → some a.block ≠ blkO A' := by
  intro a ha he
  cases hA' : A' with
  | none => rw [hA'] at he; cases he
  | some a' =>
    rw [hA'] at he
    have h1 := h a ha
    have h2 := h' a' hA'
    simp only [blkO, Option.map_some, Option.some.injEq] at he
    omega
theorem apart_hl {A' : Option Addr} {n : Nat} (h : Lo n A) (h' : Hi n A') : ∀ a, A = some a → some a.block ≠ blkO A' := by
  intro a ha he
  cases hA' : A' with
  | none => rw [hA'] at he; cases he
  | some a' =>
    rw [hA'] at he
    have h1 := h a ha
    have h2 := h' a' hA'
    simp only [blkO, Option.map_some, Option.some.injEq] at he
    omega
theorem below_grown {B : Nat} {a : World} (h : Below B a w) (hB : B ≤ w.heap.size) (hg : w.grownBy w' (blkO A)) (hl : Lo B A) : Below B a w' := by
  refine h.grown hg hB fun k hk => ?_
  cases hA : A with
  | none => rw [hA] at hk; cases hk
  | some x =>
    rw [hA] at hk
    simp only [blkO, Option.map_some, Option.some.injEq] at hk
    have := hl x hA
    omega

theorem flatMap_len (hcf : ∀ x, (cf x).length = sz) (xs : List α) : (xs.flatMap cf).length = xs.length * sz := by
  induction xs with
  | nil => simp
  | cons x xs ih => rw [List.flatMap_cons, List.length_append, hcf, ih, List.length_cons, Nat.succ_mul, Nat.add_comm]
theorem flatMap_at (hcf : ∀ x, (cf x).length = sz) : ∀ (xs : List α) (i : Nat) (x : α) (j : Nat), xs[i]? = some x → j < sz → (xs.flatMap cf)[i * sz + j]? = (cf x)[j]?
  | [], _, _, _, h, _ => by simp at h
  | y :: ys, 0, x, j, h, hj => by
    simp only [List.getElem?_cons_zero, Option.some.injEq] at h
    subst h
    rw [List.flatMap_cons, Nat.zero_mul, Nat.zero_add, List.getElem?_append_left (by rw [hcf]; exact hj)]
  | y :: ys, i + 1, x, j, h, hj => by
    simp only [List.getElem?_cons_succ] at h
    have e : (i + 1) * sz + j = sz + (i * sz + j) := by rw [Nat.succ_mul]; omega
    rw [List.flatMap_cons, e, List.getElem?_append_right (by rw [hcf]; omega), hcf, Nat.add_sub_cancel_left]
    exact flatMap_at hcf ys i x j h hj
theorem lt_of_cf (hcf : ∀ x, (cf x).length = sz) {x : α} {j : Nat} {v : Value} (h : (cf x)[j]? = some v) : j < sz := by
  rw [← hcf x]
  rcases Nat.lt_or_ge j (cf x).length with hl | hl
  · exact hl
  · rw [List.getElem?_eq_none hl] at h; cases h
theorem FreshA.of_own (hcf : ∀ x, (cf x).length = sz) {v : Value} (h : w.ownsRow B T sz v xs.length (xs.flatMap cf)) : ∃ A cap, v = .slice A xs.length cap ∧ FreshA cf sz T B w A cap xs := by
  obtain ⟨_, h⟩ := h
  rcases h with ⟨rfl, hn⟩ | ⟨g, cap, cur, rfl, hB, hh, hle, hm, hs, ht⟩
  · have : xs = [] := List.eq_nil_of_length_eq_zero hn
    subst this
    exact ⟨none, 0, rfl, .inl ⟨rfl, rfl, rfl⟩⟩
  · refine ⟨_, _, rfl, .inr ⟨g, rfl, hB, cur, hh, hs, hle, hm, fun i x hx j u hu => ?_⟩⟩
    have hj := lt_of_cf hcf hu
    have h1 := flatMap_at hcf xs i x j hx hj
    rw [← ht, hu] at h1
    have hi : i < xs.length := by
      rcases Nat.lt_or_ge i xs.length with hl | hl
      · exact hl
      · rw [List.getElem?_eq_none hl] at hx; cases hx
    have h2 : i * sz + j < xs.length * sz := by
      have : (i + 1) * sz ≤ xs.length * sz := Nat.mul_le_mul_right sz hi
      rw [Nat.succ_mul] at this
      omega
    rw [List.getElem?_take, if_pos h2] at h1
    simpa using h1
theorem OwnS.own (hcf : ∀ x, (cf x).length = sz) (hsz : 0 < sz) (h : OwnS cf sz T w g cap xs) (hB : B ≤ g) : w.ownsRow B T sz (.slice (some ⟨g, 0, none⟩) xs.length cap) xs.length (xs.flatMap cf) := by
  obtain ⟨cur, h1, h2, h3, h4, h5⟩ := h
  refine ⟨flatMap_len hcf xs, .inr ⟨g, cap, cur, rfl, hB, h1, h3, h4, h2, ?_⟩⟩
  refine List.ext_getElem? fun p => ?_
  rw [List.getElem?_take]
  by_cases hp : p < xs.length * sz
  · rw [if_pos hp]
    have hi : p / sz < xs.length := Nat.div_lt_of_lt_mul (by rw [Nat.mul_comm]; exact hp)
    have hj : p % sz < sz := Nat.mod_lt _ hsz
    have e : p / sz * sz + p % sz = p := by rw [Nat.mul_comm]; exact Nat.div_add_mod p sz
    have hx : xs[p / sz]? = some xs[p / sz] := List.getElem?_eq_getElem hi
    have hv : (cf xs[p / sz])[p % sz]? = some ((cf xs[p / sz])[p % sz]'(by rw [hcf]; exact hj)) := List.getElem?_eq_getElem _
    have h6 := h5 _ _ hx _ _ hv
    have h7 := flatMap_at hcf xs _ _ _ hx hj
    rw [e] at h6 h7
    rw [h7, hv]
    simpa using h6
  · rw [if_neg hp, List.getElem?_eq_none (by rw [flatMap_len hcf]; omega)]
theorem FreshA.own (hcf : ∀ x, (cf x).length = sz) (hsz : 0 < sz) (h : FreshA cf sz T B w A cap xs) : w.ownsRow B T sz (.slice A xs.length cap) xs.length (xs.flatMap cf) := by
  rcases h with ⟨rfl, rfl, rfl⟩ | ⟨g, rfl, hB, h⟩
  · exact World.ownsRow_nil w B T sz
  · exact h.own hcf hsz hB

theorem heap_setCell_self {cur : Array Value} {fr : Nat × Nat} (h : w.heap[g]? = some (.cells cur T fr)) (o : Nat) (u : Value) : (w.setCell ⟨g, o, none⟩ u).heap[g]? = some (.cells (cur.setIfInBounds o u) T fr) := by
  simp [World.setCell, Array.getElem?_modify, h]
def stores (w : World) (g : Nat) : Nat → List Value → World
  | _, [] => w
  | o, v :: vs => stores (w.setCell ⟨g, o, none⟩ v) g (o + 1) vs
theorem stores_heap : ∀ (vs : List Value) (w : World) (o : Nat) (cur : Array Value), w.heap[g]? = some (.cells cur T (0, 0)) → o + vs.length ≤ cur.size →
    ∃ cur' : Array Value, (stores w g o vs).heap[g]? = some (.cells cur' T (0, 0)) ∧ cur'.size = cur.size ∧ ∀ p, cur'[p]? = if o ≤ p ∧ p < o + vs.length then vs[p - o]? else cur[p]?
  | [], w, o, cur, h, _ => ⟨cur, h, rfl, fun p => by rw [if_neg (by simp only [List.length_nil]; omega)]⟩
  | v :: vs, w, o, cur, h, hl => by
    simp only [List.length_cons] at hl
    obtain ⟨cur', h1, h2, h3⟩ := stores_heap vs (w.setCell ⟨g, o, none⟩ v) (o + 1) _ (heap_setCell_self h o v) (by simp; omega)
    refine ⟨cur', h1, by simpa using h2, fun p => ?_⟩
    rw [h3]
    simp only [List.length_cons]
    by_cases hp : p = o
    · subst hp
      rw [if_neg (by omega), if_pos (by omega)]
      simp [show p < cur.size by omega]
    · by_cases hq : o + 1 ≤ p ∧ p < o + 1 + vs.length
      · rw [if_pos hq, if_pos (by omega), show p - o = (p - (o + 1)) + 1 by omega, List.getElem?_cons_succ]
      · rw [if_neg hq, if_neg (by omega), Array.getElem?_setIfInBounds_ne (fun e => hp e.symm)]
/-- one element more -/
theorem OwnS.push {x : α} (hcf : ∀ x, (cf x).length = sz) (h : OwnS cf sz T w g cap xs) (hlt : xs.length < cap) : OwnS cf sz T (stores w g (xs.length * sz) (cf x)) g cap (xs ++ [x]) := by
  obtain ⟨cur, h1, h2, h3, h4, h5⟩ := h
  have hroom : (xs.length + 1) * sz ≤ cap * sz := Nat.mul_le_mul_right sz hlt
  rw [Nat.succ_mul] at hroom
  obtain ⟨cur', e1, e2, e3⟩ := stores_heap (T := T) (cf x) w (xs.length * sz) cur h1 (by rw [hcf]; omega)
  refine ⟨cur', e1, e2.trans h2, by simp; omega, h4, fun i y hy j v hv => ?_⟩
  have hj := lt_of_cf hcf hv
  rw [e3, hcf]
  rw [List.getElem?_append] at hy
  split at hy
  · rename_i hi
    have : (i + 1) * sz ≤ xs.length * sz := Nat.mul_le_mul_right sz hi
    rw [Nat.succ_mul] at this
    rw [if_neg (by omega)]
    exact h5 i y hy j v hv
  · rename_i hi
    have hi' : i = xs.length := by
      rcases Nat.lt_or_ge (i - xs.length) 1 with h | h
      · omega
      · rw [List.getElem?_eq_none (by simpa using h)] at hy; cases hy
    subst hi'
    simp only [Nat.sub_self, List.getElem?_cons_zero, Option.some.injEq] at hy
    subst hy
    rw [if_pos (by omega), Nat.add_sub_cancel_left]
    exact hv
theorem OwnS.pushm {ys zs : List α} {x : α} {j : Nat} (hcf : ∀ x, (cf x).length = sz) (h : OwnS cf sz T w g cap ys) (hl : ys.length = j) (hs : zs = ys ++ [x]) (hj : j < cap) (hw : w' = stores w g (j * sz) (cf x)) : OwnS cf sz T w' g cap zs := by
  subst hl hs hw
  exact h.push hcf hj
theorem OwnS.pushk {k : Nat} (hcf : ∀ x, (cf x).length = sz) (h : OwnS cf sz T w g cap (xs.take k)) (hk : k < xs.length) (hc : xs.length ≤ cap) (hw : w' = stores w g (k * sz) (cf xs[k])) : OwnS cf sz T w' g cap (xs.take (k + 1)) :=
  h.pushm hcf (by rw [List.length_take]; omega) (List.take_succ_eq_append_getElem hk) (by omega) hw
theorem grown_set {a : World} (h : a.grownBy w (some g)) {o : Nat} {u : Value} : a.grownBy (w.setCell ⟨g, o, none⟩ u) (some g) :=
  ⟨h.os, h.tape, h.output, by simpa [World.setCell] using h.size, fun i hi hne => (Below.heap_setCell w ⟨g, o, none⟩ u i (fun e => hne (by rw [e]))).trans (h.block i hi hne)⟩
theorem make_run {P : Program} (t e : TypeId) (i : TypeInfo) (z : Value) (ht : P.underlying t = some (.slice e)) (hi : P.info? e = some i) (hz : i.zero = some z) (n : Nat) (hb : i.bytes * n ≤ 281474976710656) (hn : n ≤ 9223372036854775807) (w : World) :
    (Instr.makeSlice t (.int .i64 (n : Int)) (.int .i64 (n : Int))).run P w = .ok (.slice (some ⟨w.heap.size, 0, none⟩) n n) (w.alloc (.cells (madeCells z.cells (n * i.size)) e)) := by
  have hb' : (i.bytes : Int) * (n : Int) ≤ 281474976710656 := by
    have h : ((i.bytes * n : Nat) : Int) ≤ 281474976710656 := by omega
    rwa [Int.natCast_mul] at h
  have hr := run_make (P := P) (w := w) t e i z ht hi hz .i64 .i64 n n (by omega) (by omega) hb' (by omega)
  simpa only [Int.toNat_natCast] using hr
theorem stores_below {B : Nat} {a : World} : ∀ (vs : List Value) (w : World) (o : Nat), Below B a w → B ≤ g → Below B a (stores w g o vs)
  | [], _, _, h, _ => h
  | _ :: vs, _, _, h, hB => stores_below vs _ _ (h.setCell (p := ⟨g, _, none⟩) hB _) hB
end

/-- a fresh row that a helper made -/
def FreshRow {α : Type} (cf : α → List Value) (sz : Nat) (T : TypeId) (B : Nat) (xs : List α) (v : Value) (w : World) : Prop := ∃ g, v = .slice (some ⟨g, 0, none⟩) xs.length xs.length ∧ B ≤ g ∧ OwnS cf sz T w g xs.length xs
theorem FreshRow.stable {α : Type} {cf : α → List Value} {sz : Nat} {T : TypeId} {B : Nat} {xs : List α} : Stable (FreshRow cf sz T B xs) := fun _ _ _ h hb => by
  obtain ⟨g, h1, h2, h3⟩ := h
  exact ⟨g, h1, h2, h3.below hb⟩
theorem FreshRow.ltv {α : Type} {cf : α → List Value} {sz : Nat} {T : TypeId} {B : Nat} {xs : List α} {v : Value} {w : World} (h : FreshRow cf sz T B xs v w) : blkV v < w.heap.size := by
  obtain ⟨g, rfl, _, h3⟩ := h
  exact h3.lt
/-- 'out = append(out, y)' on a slice of the call's own, in this file's words -/
theorem wp_push {P : Program} {α : Type} {cf : α → List Value} {w : World} {o : Oper} {a : Act} {K : Act → World → Prop} {Q : Exit → Act → World → Prop} (s x : Operand) (t : TypeId)
    (ho : o.op = .call { callee := .builtin .append, args := #[s, x], argTypes := #[t, t] })
    (e : TypeId) (i : TypeInfo) (z : Value) (sz bytes : Nat) (ht : P.underlying t = some (.slice e)) (hi : P.info? e = some i) (hz : i.zero = some z)
    (hsize : i.size = sz) (hby : i.bytes = bytes) (hzs : z.cells.size = sz) (hsz : 0 < sz) (hcf : ∀ x, (cf x).length = sz) (hone : ∀ x, ∀ u ∈ cf x, u.oneCell' = true)
    (B : Nat) (A : Option Addr) (n cap : Nat) (xs : List α) (hn : xs.length = n) (hs : a.eval s = .slice A n cap) (hF : FreshA cf sz e B w A cap xs)
    (y : α) (gb c : Nat) (hx : a.eval x = .slice (some ⟨gb, 0, none⟩) 1 c) (hnews : ∀ j u, (cf y)[j]? = some u → w.cell? ⟨gb, j, none⟩ = some u)
    (h63 : n + 1 ≤ maxLen) (hbytes : (n + 1) * bytes ≤ 140737488355328) (hbase : B ≤ w.heap.size)
    (h : ∀ A' cap' w', FreshA cf sz e B w' A' cap' (xs ++ [y]) → w.grownBy w' (blkO A) → (blkO A' = blkO A ∨ blkO A' = some w.heap.size) → K (a.put o.dst (.slice A' (n + 1) cap')) w') : o.wp P a w K Q := by
  subst hn
  have hown := hF.own hcf hsz
  obtain ⟨v', w', hrun, hown', hg, _, hat⟩ := run_append_own_at (P := P) w B t o.type e i z sz bytes ht hi hz hsize hby hzs hsz _ _ _ hown ⟨gb, 0, none⟩ 1 c (cf y) (by rw [hcf, Nat.one_mul]) (fun j u hu => by
    have e : (⟨gb, 0, none⟩ : Addr).add j = ⟨gb, j, none⟩ := by
      unfold Addr.add
      by_cases hj : j = 0 <;> simp [hj]
    rw [e]
    exact hnews j u hu) (hone y) h63 hbytes hbase
  unfold Oper.wp execOp
  simp only [ho, resolve, invoke, builtin, Sem.run_bind, Sem.run_pure, Result.andThen_ok, List.map_toArray, List.map_cons, List.map_nil, hs, hx, hrun]
  have hl : (xs ++ [y]).length = xs.length + 1 := by simp
  have hown2 : w'.ownsRow B e sz v' (xs ++ [y]).length ((xs ++ [y]).flatMap cf) := by
    rw [hl, List.flatMap_append, List.flatMap_cons, List.flatMap_nil, List.append_nil]
    exact hown'
  obtain ⟨A', cap', rfl, hF'⟩ := FreshA.of_own hcf hown2
  have hb : ∀ (A : Option Addr) (n c : Nat), (Value.slice A n c).ownBlock = blkO A := fun A n c => by cases A <;> rfl
  rw [hb] at hg
  rw [hb, hb] at hat
  have := h A' cap' w' hF' hg hat
  rw [hl]
  exact this
theorem wpList_push {P : Program} {α : Type} {cf : α → List Value} {w : World} {ops : Array Oper} {rest : List Oper} {o : Oper} {a : Act} {Q : Exit → Act → World → Prop} (hgd : o.guard = none) (s x : Operand) (t : TypeId)
    (ho : o.op = .call { callee := .builtin .append, args := #[s, x], argTypes := #[t, t] })
    (e : TypeId) (i : TypeInfo) (z : Value) (sz bytes : Nat) (ht : P.underlying t = some (.slice e)) (hi : P.info? e = some i) (hz : i.zero = some z)
    (hsize : i.size = sz) (hby : i.bytes = bytes) (hzs : z.cells.size = sz) (hsz : 0 < sz) (hcf : ∀ x, (cf x).length = sz) (hone : ∀ x, ∀ u ∈ cf x, u.oneCell' = true)
    (B : Nat) (A : Option Addr) (n cap : Nat) (xs : List α) (hn : xs.length = n) (hs : a.eval s = .slice A n cap) (hF : FreshA cf sz e B w A cap xs)
    (y : α) (gb c : Nat) (hx : a.eval x = .slice (some ⟨gb, 0, none⟩) 1 c) (hnews : ∀ j u, (cf y)[j]? = some u → w.cell? ⟨gb, j, none⟩ = some u)
    (h63 : n + 1 ≤ maxLen) (hbytes : (n + 1) * bytes ≤ 140737488355328) (hbase : B ≤ w.heap.size)
    (h : ∀ A' cap' w', FreshA cf sz e B w' A' cap' (xs ++ [y]) → w.grownBy w' (blkO A) → (blkO A' = blkO A ∨ blkO A' = some w.heap.size) → wpList P ops Q rest (a.put o.dst (.slice A' (n + 1) cap')) w') : wpList P ops Q (o :: rest) a w :=
  wpList_plain hgd fun _ hK => wp_push s x t ho e i z sz bytes ht hi hz hsize hby hzs hsz hcf hone B A n cap xs hn hs hF y gb c hx hnews h63 hbytes hbase fun A' cap' w' h1 h2 h3 => hK _ _ (h A' cap' w' h1 h2 h3)
/-- block G is not the slice's own -/
def NeB (G : Nat) (A : Option Addr) : Prop := ∀ a, A = some a → a.block ≠ G
theorem NeB.next {G n : Nat} {A A' : Option Addr} (h : NeB G A) (hat : blkO A' = blkO A ∨ blkO A' = some n) (hn : G < n) : NeB G A' := by
  intro a ha
  rcases hat with e | e
  · rw [ha] at e
    cases hA : A with
    | none => rw [hA] at e; cases e
    | some a0 =>
      rw [hA] at e
      simp only [blkO, Option.map_some, Option.some.injEq] at e
      rw [e]
      exact h a0 hA
  · rw [ha] at e
    simp only [blkO, Option.map_some, Option.some.injEq] at e
    omega
theorem NeB.block {G : Nat} {A : Option Addr} {W w' : World} (h : NeB G A) (hg : W.grownBy w' (blkO A)) (hG : G < W.heap.size) : w'.heap[G]? = W.heap[G]? := by
  refine hg.block G hG fun e => ?_
  cases hA : A with
  | none => rw [hA] at e; cases e
  | some a =>
    rw [hA] at e
    simp only [blkO, Option.map_some, Option.some.injEq] at e
    exact h a hA e.symm
theorem NeB.cell {G : Nat} {A : Option Addr} {W w' : World} (h : NeB G A) (hg : W.grownBy w' (blkO A)) (hG : G < W.heap.size) (o : Nat) : w'.cell? ⟨G, o, none⟩ = W.cell? ⟨G, o, none⟩ := World.cell?_of_block (a := ⟨G, o, none⟩) (h.block hg hG)
theorem NeB.frozen {G : Nat} {A : Option Addr} {W w' : World} (h : NeB G A) (hg : W.grownBy w' (blkO A)) (hG : G < W.heap.size) (o : Nat) : w'.frozen? ⟨G, o, none⟩ = W.frozen? ⟨G, o, none⟩ := World.frozen?_of_block (a := ⟨G, o, none⟩) (h.block hg hG)
theorem cellGrown {W w' : World} {A : Option Addr} {B n : Nat} (hg : W.grownBy w' (blkO A)) (hl : Lo B A) (hh : Hi n A) : ∀ b o, w'.cell? ⟨b, o, none⟩ = if b < W.heap.size ∧ (b < B ∨ n ≤ b) then W.cell? ⟨b, o, none⟩ else far w' b o := by
  intro b o
  by_cases h : b < W.heap.size ∧ (b < B ∨ n ≤ b)
  · rw [if_pos h]
    refine World.cell?_of_block (a := ⟨b, o, none⟩) (hg.block b h.1 fun e => ?_)
    cases hA : A with
    | none => rw [hA] at e; cases e
    | some a =>
      rw [hA] at e
      simp only [blkO, Option.map_some, Option.some.injEq] at e
      have h1 := hl a hA
      have h2 := hh a hA
      omega
  · rw [if_neg h]; rfl
theorem frozGrown {W w' : World} {A : Option Addr} {B n : Nat} (hg : W.grownBy w' (blkO A)) (hl : Lo B A) (hh : Hi n A) : ∀ b o, w'.frozen? ⟨b, o, none⟩ = if b < W.heap.size ∧ (b < B ∨ n ≤ b) then W.frozen? ⟨b, o, none⟩ else farz w' b o := by
  intro b o
  by_cases h : b < W.heap.size ∧ (b < B ∨ n ≤ b)
  · rw [if_pos h]
    refine World.frozen?_of_block (a := ⟨b, o, none⟩) (hg.block b h.1 fun e => ?_)
    cases hA : A with
    | none => rw [hA] at e; cases e
    | some a =>
      rw [hA] at e
      simp only [blkO, Option.map_some, Option.some.injEq] at e
      have h1 := hl a hA
      have h2 := hh a hA
      omega
  · rw [if_neg h]; rfl
theorem below_of_grown {W w' : World} {A : Option Addr} {B : Nat} (hg : W.grownBy w' (blkO A)) (hl : Lo B A) (hB : B ≤ W.heap.size) : Below B W w' := below_grown (Below.refl B W) hB hg hl
theorem OwnS.set_far {α : Type} {cf : α → List Value} {sz : Nat} {T : TypeId} {w : World} {g cap : Nat} {xs : List α} (h : OwnS cf sz T w g cap xs) {p : Addr} (hp : g ≠ p.block) (u : Value) : OwnS cf sz T (w.setCell p u) g cap xs := h.block (Below.heap_setCell w p u g hp)
theorem FreshA.set_low {α : Type} {cf : α → List Value} {sz : Nat} {T : TypeId} {B cap : Nat} {w : World} {A : Option Addr} {xs : List α} (h : FreshA cf sz T B w A cap xs) {p : Addr} (hp : p.block < B) (u : Value) : FreshA cf sz T B (w.setCell p u) A cap xs := by
  rcases h with h | ⟨g, hA, hB, h⟩
  · exact .inl h
  · exact .inr ⟨g, hA, hB, h.set_far (by omega) u⟩
/-- a tuple whose first is a slice of the callee's own -/
def TupS {α : Type} (cf : α → List Value) (sz : Nat) (T : TypeId) (B : Nat) (L : List α) (rest : List Value) (v : Value) (w : World) : Prop := ∃ A cap, v = .tuple (Value.slice A L.length cap :: rest).toArray ∧ FreshA cf sz T B w A cap L
theorem TupS.stable {α : Type} {cf : α → List Value} {sz : Nat} {T : TypeId} {B : Nat} {L : List α} {rest : List Value} : Stable (TupS cf sz T B L rest) := fun _ _ _ h hb => by
  obtain ⟨A, cap, h1, h2⟩ := h
  exact ⟨A, cap, h1, h2.below hb⟩
def SlF {α : Type} (cf : α → List Value) (sz : Nat) (T : TypeId) (B : Nat) (L : List α) (v : Value) (w : World) : Prop := ∃ A cap, v = .slice A L.length cap ∧ FreshA cf sz T B w A cap L
theorem SlF.stable {α : Type} {cf : α → List Value} {sz : Nat} {T : TypeId} {B : Nat} {L : List α} : Stable (SlF cf sz T B L) := fun _ _ _ h hb => by
  obtain ⟨A, cap, h1, h2⟩ := h
  exact ⟨A, cap, h1, h2.below hb⟩
/-- what reads below survives a write into a row from n on -/
theorem Rds.past {α : Type} {cf : α → List Value} {sz : Nat} {w0 W W' : World} {A Ax : Option Addr} {xs : List α} {n : Nat} (h : Rds cf sz w0 A xs) (hb : Below w0.heap.size w0 W) (hg : W.grownBy W' (blkO Ax)) (hl : Lo n Ax) (hn : w0.heap.size ≤ n) : Rds cf sz W' A xs := by
  intro i x hx
  obtain ⟨b, off, hA, hlt, hc⟩ := h i x hx
  have hne : some b ≠ blkO Ax := by
    intro e
    cases hAx : Ax with
    | none => rw [hAx] at e; cases e
    | some a =>
      rw [hAx] at e
      simp only [blkO, Option.map_some, Option.some.injEq] at e
      have := hl a hAx
      omega
  have hW : b < W.heap.size := Nat.lt_of_lt_of_le hlt hb.size
  refine ⟨b, off, hA, Nat.lt_of_lt_of_le hW hg.size, fun j v hv => ?_⟩
  have h1 := World.cell?_of_block (a := ⟨b, off + i * sz + j, none⟩) (hg.block b hW hne)
  have h2 := hb.cell (p := ⟨b, off + i * sz + j, none⟩) hlt
  exact (h1.trans h2).trans (hc j v hv)
theorem FreshA.set_ne {α : Type} {cf : α → List Value} {sz : Nat} {T : TypeId} {B cap G : Nat} {w : World} {A : Option Addr} {xs : List α} (h : FreshA cf sz T B w A cap xs) (hne : NeB G A) (o : Nat) (u : Value) : FreshA cf sz T B (w.setCell ⟨G, o, none⟩ u) A cap xs := by
  rcases h with h | ⟨g, hA, hB, h⟩
  · exact .inl h
  · exact .inr ⟨g, hA, hB, h.set_far (p := ⟨G, o, none⟩) (hne _ hA) u⟩
/-- reads as a list, all its cells below block n -/
def RdsN {α : Type} (n : Nat) (cf : α → List Value) (sz : Nat) (w : World) (A : Option Addr) (xs : List α) : Prop :=
  ∀ i x, xs[i]? = some x → ∃ b off, A = some ⟨b, off, none⟩ ∧ b < n ∧ ∀ j v, (cf x)[j]? = some v → w.cell? ⟨b, off + i * sz + j, none⟩ = some v
theorem Rds.toN {α : Type} {cf : α → List Value} {sz : Nat} {w : World} {A : Option Addr} {xs : List α} (h : Rds cf sz w A xs) : RdsN w.heap.size cf sz w A xs := h
theorem RdsN.rds {α : Type} {n : Nat} {cf : α → List Value} {sz : Nat} {w : World} {A : Option Addr} {xs : List α} (h : RdsN n cf sz w A xs) (hn : n ≤ w.heap.size) : Rds cf sz w A xs := by
  intro i x hx
  obtain ⟨b, off, hA, hlt, hc⟩ := h i x hx
  exact ⟨b, off, hA, by omega, hc⟩
theorem RdsN.past {α : Type} {cf : α → List Value} {sz : Nat} {w0 W W' : World} {A Ax : Option Addr} {xs : List α} {m n : Nat} (h : RdsN m cf sz w0 A xs) (hm : m ≤ w0.heap.size) (hb : Below w0.heap.size w0 W) (hg : W.grownBy W' (blkO Ax)) (hl : Lo n Ax) (hn : m ≤ n) : RdsN m cf sz W' A xs := by
  intro i x hx
  obtain ⟨b, off, hA, hlt, hc⟩ := h i x hx
  have hne : some b ≠ blkO Ax := by
    intro e
    cases hAx : Ax with
    | none => rw [hAx] at e; cases e
    | some a =>
      rw [hAx] at e
      simp only [blkO, Option.map_some, Option.some.injEq] at e
      have := hl a hAx
      omega
  have hW : b < W.heap.size := by have := hb.size; omega
  refine ⟨b, off, hA, hlt, fun j v hv => ?_⟩
  have h1 := World.cell?_of_block (a := ⟨b, off + i * sz + j, none⟩) (hg.block b hW hne)
  have h2 := hb.cell (p := ⟨b, off + i * sz + j, none⟩) (by show b < _; omega)
  exact (h1.trans h2).trans (hc j v hv)
theorem RdsN.ofHi {α : Type} {n : Nat} {cf : α → List Value} {sz : Nat} {w : World} {A : Option Addr} {xs : List α} (h : Rds cf sz w A xs) (hh : Hi n A) : RdsN n cf sz w A xs := by
  intro i x hx
  obtain ⟨b, off, hA, _, hc⟩ := h i x hx
  exact ⟨b, off, hA, hh _ hA, hc⟩

theorem hid {p : Prop} (h : p) : Hid p := h

def idxF {α : Type} (p : α → Bool) (xs : List α) : Int := match xs.findIdx? p with | some i => (i : Int) | none => -1
theorem idxF_hit {α : Type} {p : α → Bool} {xs : List α} {k : Nat} (hl : (xs.take k).any p = false) (h : k < xs.length) (hp : p xs[k] = true) : idxF p xs = k := by
  have : xs.findIdx? p = some k := by
    rw [List.findIdx?_eq_some_iff_getElem]
    refine ⟨h, hp, fun j hj => ?_⟩
    rw [List.any_eq_false] at hl
    have := hl xs[j] (List.mem_take_iff_getElem.2 ⟨j, by omega, rfl⟩)
    simpa using this
  simp [idxF, this]
theorem idxF_none {α : Type} {p : α → Bool} {xs : List α} (hl : xs.any p = false) : idxF p xs = -1 := by
  have : xs.findIdx? p = none := by
    rw [List.findIdx?_eq_none_iff]
    rw [List.any_eq_false] at hl
    intro x hx
    simpa using hl x hx
  simp [idxF, this]
theorem idxF_any {α : Type} (p : α → Bool) (xs : List α) : (0 ≤ idxF p xs) ↔ xs.any p = true := by
  cases h : xs.any p with
  | false => rw [idxF_none h]; simp
  | true =>
    unfold idxF
    cases hf : xs.findIdx? p with
    | none =>
      rw [List.findIdx?_eq_none_iff] at hf
      rw [List.any_eq_true] at h
      obtain ⟨x, hx, hp⟩ := h
      rw [hf x hx] at hp; cases hp
    | some i => simp
theorem any_snoc {α : Type} (p : α → Bool) (xs : List α) (k : Nat) (h : k < xs.length) : (xs.take (k + 1)).any p = ((xs.take k).any p || p xs[k]) := by
  rw [List.take_succ_eq_append_getElem h, List.any_append]; simp
theorem any_hit {α : Type} {p : α → Bool} {xs : List α} {k : Nat} (h : k < xs.length) (hp : p xs[k] = true) : xs.any p = true := by
  rw [List.any_eq_true]; exact ⟨xs[k], List.getElem_mem h, hp⟩

end Go.Proofs.Ytpaclngjmdacjaa
namespace Go.Proofs.Ytpaclngjmdacjaa
set_option linter.unusedSimpArgs false
set_option linter.unusedVariables false
open Go.RowKit

def goodI (a b : Int) : Bool := decide (0 ≤ a ∧ a ≤ b ∧ b ≤ 9999)
theorem goodI_bd {a b : Int} (h : goodI a b = true) : 0 ≤ a ∧ a ≤ b ∧ b ≤ 9999 := by simpa [goodI] using h
def minB (a : Int) : Bool := decide (0 ≤ a ∧ a ≤ 9999)
theorem minB_bd {a : Int} (h : minB a = true) : 0 ≤ a ∧ a ≤ 9999 := by simpa [minB] using h
def inB (a b c : Int) : Bool := decide (b ≤ a ∧ a ≤ c)
theorem inB_bd {a b c : Int} (h : inB a b c = true) : b ≤ a ∧ a ≤ c := by simpa [inB] using h

end Go.Proofs.Ytpaclngjmdacjaa
namespace Go.Proofs.Ytpaclngjmdacjaa
set_option linter.unusedSimpArgs false
set_option linter.unusedVariables false
open Go.RowKit

def vAt {α : Type} (good : α → Bool) (lt : α → α → Bool) (xs : List α) (k : Nat) : Bool :=
  match xs[k]? with
  | some x => good x && (match k with | 0 => true | k' + 1 => (match xs[k']? with | some y => lt y x | none => true))
  | none => true
def vB {α : Type} (good : α → Bool) (lt : α → α → Bool) (n : Nat) (xs : List α) : Bool := (List.range xs.length).all (vAt good lt xs) && decide (xs.length ≤ n)
section
variable {α : Type} {good : α → Bool} {lt : α → α → Bool} {n : Nat} {xs : List α}
theorem vAt_zero (h : 0 < xs.length) : vAt good lt xs 0 = good xs[0] := by simp [vAt, h]
theorem vAt_succ (k : Nat) (h : k + 1 < xs.length) : vAt good lt xs (k + 1) = (good xs[k + 1] && lt xs[k] xs[k + 1]) := by
  have h' : k < xs.length := by omega
  simp [vAt, h, h']
theorem vB_bad {k : Nat} (h : k < xs.length) (hv : vAt good lt xs k = false) : vB good lt n xs = false := by
  have : (List.range xs.length).all (vAt good lt xs) = false := by
    rw [List.all_eq_false]
    exact ⟨k, List.mem_range.2 h, by simp [hv]⟩
  simp [vB, this]
theorem vB_all (h : ∀ j, j < xs.length → vAt good lt xs j = true) : vB good lt n xs = decide (xs.length ≤ n) := by
  have : (List.range xs.length).all (vAt good lt xs) = true := by
    rw [List.all_eq_true]
    exact fun j hj => h j (List.mem_range.1 hj)
  simp [vB, this]
theorem vB_long (h : n < xs.length) : vB good lt n xs = false := by
  simp only [vB, Bool.and_eq_false_iff, decide_eq_false_iff_not]
  right
  omega
theorem vB_len (h : vB good lt n xs = true) : xs.length ≤ n := by
  simp only [vB, Bool.and_eq_true, decide_eq_true_eq] at h
  exact h.2
theorem vB_at (h : vB good lt n xs = true) (k : Nat) (hk : k < xs.length) : good xs[k] = true := by
  simp only [vB, Bool.and_eq_true, List.all_eq_true, List.mem_range] at h
  have := h.1 k hk
  cases k with
  | zero => rwa [vAt_zero hk] at this
  | succ k => rw [vAt_succ k hk, Bool.and_eq_true] at this; exact this.1
theorem vB_lt (h : vB good lt n xs = true) (k : Nat) (hk : k + 1 < xs.length) : lt xs[k] xs[k + 1] = true := by
  simp only [vB, Bool.and_eq_true, List.all_eq_true, List.mem_range] at h
  have := h.1 (k + 1) hk
  rw [vAt_succ k hk, Bool.and_eq_true] at this
  exact this.2
/-- all elements of a list that reads -/
theorem Rds.all {cf : α → List Value} {sz : Nat} {w : World} {A : Option Addr} (h : Rds cf sz w A xs) (h0 : 0 < xs.length) :
    ∃ b off, A = some ⟨b, off, none⟩ ∧ b < w.heap.size ∧ ∀ i (hi : i < xs.length) j v, (cf xs[i])[j]? = some v → w.cell? ⟨b, off + i * sz + j, none⟩ = some v := by
  obtain ⟨b, off, hA, hb, _⟩ := h 0 xs[0] (List.getElem?_eq_getElem h0)
  refine ⟨b, off, hA, hb, fun i hi j v hv => ?_⟩
  obtain ⟨b', off', hA', _, hc⟩ := h i xs[i] (List.getElem?_eq_getElem hi)
  rw [hA] at hA'
  cases hA'
  exact hc j v hv
end

end Go.Proofs.Ytpaclngjmdacjaa
namespace Go.Proofs.Ytpaclngjmdacjaa
set_option linter.unusedSimpArgs false
set_option linter.unusedVariables false
open Go.RowKit

def cPu (x : (Int × Int × Int)) : List Value := [.int .i64 (x.1), .int .i64 (x.2.1), .int .i64 (x.2.2)]
theorem cPu_len (x : (Int × Int × Int)) : (cPu x).length = 3 := rfl

def mkPu (n : Nat) (k : Int) : List (Int × Int × Int) := (List.range n).map fun (i : Nat) => (k + 3 * (i : Int), k + 3 * (i : Int) + 1, k + 3 * (i : Int) + 2)

theorem mkPu_len (n : Nat) (k : Int) : (mkPu n k).length = n := by simp [mkPu]
theorem mkPu_at (n : Nat) (k : Int) (j : Nat) (h : j < n) (h' : j < (mkPu n k).length) : (mkPu n k)[j] = (k + 3 * (j : Int), k + 3 * (j : Int) + 1, k + 3 * (j : Int) + 2) := by simp [mkPu]

theorem mkPu_snoc (j : Nat) (k : Int) : mkPu (j + 1) k = mkPu j k ++ [(k + 3 * (j : Int), k + 3 * (j : Int) + 1, k + 3 * (j : Int) + 2)] := by simp [mkPu, List.range_succ]

theorem news_Pu (w : World) (g : Nat) (x : (Int × Int × Int)) (h0 : w.cell? ⟨g, 0, none⟩ = some (.int .i64 (x.1))) (h1 : w.cell? ⟨g, 1, none⟩ = some (.int .i64 (x.2.1))) (h2 : w.cell? ⟨g, 2, none⟩ = some (.int .i64 (x.2.2))) : ∀ j u, (cPu x)[j]? = some u → w.cell? ⟨g, j, none⟩ = some u := by
  intro j u hu
  match j, hu with
  | 0, hu => cases hu; exact h0
  | 1, hu => cases hu; exact h1
  | 2, hu => cases hu; exact h2
  | j + 3, hu => simp [cPu] at hu

theorem one_Pu : ∀ x, ∀ u ∈ cPu x, u.oneCell' = true := by
  intro x u hu
  simp [cPu] at hu
  rcases hu with rfl | rfl | rfl <;> rfl

def cIn (x : (Int)) : List Value := [.int .i64 (x)]
theorem cIn_len (x : (Int)) : (cIn x).length = 1 := rfl

def mkIn (n : Nat) (k : Int) : List (Int) := (List.range n).map fun (i : Nat) => (k + (i : Int))

theorem mkIn_len (n : Nat) (k : Int) : (mkIn n k).length = n := by simp [mkIn]
theorem mkIn_at (n : Nat) (k : Int) (j : Nat) (h : j < n) (h' : j < (mkIn n k).length) : (mkIn n k)[j] = (k + (j : Int)) := by simp [mkIn]

theorem mkIn_snoc (j : Nat) (k : Int) : mkIn (j + 1) k = mkIn j k ++ [(k + (j : Int))] := by simp [mkIn, List.range_succ]

theorem news_In (w : World) (g : Nat) (x : (Int)) (h0 : w.cell? ⟨g, 0, none⟩ = some (.int .i64 (x))) : ∀ j u, (cIn x)[j]? = some u → w.cell? ⟨g, j, none⟩ = some u := by
  intro j u hu
  match j, hu with
  | 0, hu => cases hu; exact h0
  | j + 1, hu => simp [cIn] at hu

theorem one_In : ∀ x, ∀ u ∈ cIn x, u.oneCell' = true := by
  intro x u hu
  simp [cIn] at hu
  subst hu
  rfl

def puOk (x : Int × Int × Int) : Bool := inB x.1 1 50 && inB x.2.1 0 20 && inB x.2.2 0 50
theorem puOk_bd {x : Int × Int × Int} (h : puOk x = true) : 1 ≤ x.1 ∧ x.1 ≤ 50 ∧ 0 ≤ x.2.1 ∧ x.2.1 ≤ 20 ∧ 0 ≤ x.2.2 ∧ x.2.2 ≤ 50 := by
  simp only [puOk, Bool.and_eq_true] at h
  have h1 := inB_bd h.1.1
  have h2 := inB_bd h.1.2
  have h3 := inB_bd h.2
  omega
def flOk (f : Int) : Bool := inB f (-50) 50
def headB (l h v : Int) (n m : Nat) : Bool := decide (0 ≤ l ∧ l ≤ v ∧ v ≤ h ∧ h ≤ 500 ∧ 1 ≤ n ∧ n ≤ 5 ∧ m ≤ 2)
theorem headB_bd {l h v : Int} {n m : Nat} (e : headB l h v n m = true) : 0 ≤ l ∧ l ≤ v ∧ v ≤ h ∧ h ≤ 500 ∧ 1 ≤ n ∧ n ≤ 5 ∧ m ≤ 2 := by simpa [headB] using e
def taskB (l h v : Int) (fs : List Int) (ps : List (Int × Int × Int)) : Bool := headB l h v fs.length ps.length && fs.all flOk && ps.all puOk
section
variable {l h v : Int} {fs : List Int} {ps : List (Int × Int × Int)}
theorem taskB_head (e : taskB l h v fs ps = true) : headB l h v fs.length ps.length = true := by
  simp only [taskB, Bool.and_eq_true] at e
  exact e.1.1
theorem taskB_fl (e : taskB l h v fs ps = true) : ∀ k (hk : k < fs.length), -50 ≤ fs[k] ∧ fs[k] ≤ 50 := by
  simp only [taskB, Bool.and_eq_true, List.all_eq_true] at e
  exact fun k hk => inB_bd (e.1.2 fs[k] (List.getElem_mem hk))
theorem taskB_pu (e : taskB l h v fs ps = true) : ∀ k (hk : k < ps.length), puOk ps[k] = true := by
  simp only [taskB, Bool.and_eq_true, List.all_eq_true] at e
  exact fun k hk => e.2 ps[k] (List.getElem_mem hk)
end
/-- the greatest number that says which of n pumps run (n at most two) -/
def topB (n : Nat) : Int := if n = 0 then 0 else if n = 1 then 1 else 3
def bitsOk (n : Nat) (x : Int) : Bool := inB x 0 (topB n)
def planB (l h v : Int) (fs : List Int) (ps : List (Int × Int × Int)) (pl : List Int) : Bool := taskB l h v fs ps && decide (pl.length = fs.length) && pl.all (bitsOk ps.length)
section
variable {l h v : Int} {fs : List Int} {ps : List (Int × Int × Int)} {pl : List Int}
theorem planB_task (e : planB l h v fs ps pl = true) : taskB l h v fs ps = true := by
  simp only [planB, Bool.and_eq_true] at e
  exact e.1.1
theorem planB_len (e : planB l h v fs ps pl = true) : pl.length = fs.length := by
  simp only [planB, Bool.and_eq_true, decide_eq_true_eq] at e
  exact e.1.2
theorem planB_bits (e : planB l h v fs ps pl = true) : ∀ k (hk : k < pl.length), bitsOk ps.length pl[k] = true := by
  simp only [planB, Bool.and_eq_true, List.all_eq_true] at e
  exact fun k hk => e.2 pl[k] (List.getElem_mem hk)
theorem bitsOk_bd {n : Nat} {x : Int} (e : bitsOk n x = true) : 0 ≤ x ∧ x ≤ 3 := by
  have := inB_bd e
  unfold topB at this
  split at this
  · omega
  · split at this <;> omega
end
/-- a pump runs: bit i of the hour's number (0 to 3; i: 0 or 1) -/
def bitB (x : Int) (i : Nat) : Bool := if i = 0 then decide (x = 1 ∨ x = 3) else decide (x = 2 ∨ x = 3)
/-- what an hour's pumps take out, cost and start, the first k of them; b: the hour before -/
def outTo (ps : List (Int × Int × Int)) (x : Int) : Nat → Int
  | 0 => 0
  | k + 1 => match ps[k]? with | some p => outTo ps x k + (if bitB x k = true then p.1 else 0) | none => outTo ps x k
def costTo (ps : List (Int × Int × Int)) (b x : Int) : Nat → Int
  | 0 => 0
  | k + 1 => match ps[k]? with | some p => costTo ps b x k + (if bitB x k = true then p.2.1 + (if bitB b k = true then 0 else p.2.2) else 0) | none => costTo ps b x k
def startTo (ps : List (Int × Int × Int)) (b x : Int) : Nat → Int
  | 0 => 0
  | k + 1 => match ps[k]? with | some _ => startTo ps b x k + (if bitB x k = true then (if bitB b k = true then 0 else 1) else 0) | none => startTo ps b x k
section
variable {ps : List (Int × Int × Int)}
theorem outTo_succ (x : Int) (k : Nat) (h : k < ps.length) : outTo ps x (k + 1) = outTo ps x k + (if bitB x k = true then ps[k].1 else 0) := by
  rw [outTo, List.getElem?_eq_getElem h]
theorem costTo_succ (b x : Int) (k : Nat) (h : k < ps.length) : costTo ps b x (k + 1) = costTo ps b x k + (if bitB x k = true then ps[k].2.1 + (if bitB b k = true then 0 else ps[k].2.2) else 0) := by
  rw [costTo, List.getElem?_eq_getElem h]
theorem startTo_succ (b x : Int) (k : Nat) (h : k < ps.length) : startTo ps b x (k + 1) = startTo ps b x k + (if bitB x k = true then (if bitB b k = true then 0 else 1) else 0) := by
  rw [startTo, List.getElem?_eq_getElem h]
theorem outTo_bd (hp : ∀ k (hk : k < ps.length), puOk ps[k] = true) (x : Int) : ∀ k : Nat, k ≤ ps.length → 0 ≤ outTo ps x k ∧ outTo ps x k ≤ 50 * k
  | 0, _ => by simp [outTo]
  | k + 1, hk => by
    have ih := outTo_bd hp x k (by omega)
    have hb := puOk_bd (hp k (by omega))
    rw [outTo_succ x k (by omega)]
    split <;> omega
theorem costTo_bd (hp : ∀ k (hk : k < ps.length), puOk ps[k] = true) (b x : Int) : ∀ k : Nat, k ≤ ps.length → 0 ≤ costTo ps b x k ∧ costTo ps b x k ≤ 70 * k
  | 0, _ => by simp [costTo]
  | k + 1, hk => by
    have ih := costTo_bd hp b x k (by omega)
    have hb := puOk_bd (hp k (by omega))
    rw [costTo_succ b x k (by omega)]
    split
    · split <;> omega
    · omega
theorem startTo_bd (b x : Int) : ∀ k : Nat, k ≤ ps.length → 0 ≤ startTo ps b x k ∧ startTo ps b x k ≤ k
  | 0, _ => by simp [startTo]
  | k + 1, hk => by
    have ih := startTo_bd b x k (by omega)
    rw [startTo_succ b x k (by omega)]
    split
    · split <;> omega
    · omega
end
/-- the hour before the k-th -/
def befB (pl : List Int) (k : Nat) : Int := match k with | 0 => 0 | k + 1 => (match pl[k]? with | some x => x | none => 0)
theorem befB_zero (pl : List Int) : befB pl 0 = 0 := rfl
theorem befB_succ {pl : List Int} {k : Nat} (h : k < pl.length) : befB pl (k + 1) = pl[k] := by simp [befB, h]
def levTo (v : Int) (fs pl : List Int) (ps : List (Int × Int × Int)) : Nat → Int
  | 0 => v
  | k + 1 => match fs[k]?, pl[k]? with | some f, some x => levTo v fs pl ps k + f - outTo ps x ps.length | _, _ => levTo v fs pl ps k
def pumpTo (pl : List Int) (ps : List (Int × Int × Int)) : Nat → Int
  | 0 => 0
  | k + 1 => match pl[k]? with | some x => pumpTo pl ps k + outTo ps x ps.length | none => pumpTo pl ps k
def payTo (pl : List Int) (ps : List (Int × Int × Int)) : Nat → Int
  | 0 => 0
  | k + 1 => match pl[k]? with | some x => payTo pl ps k + costTo ps (befB pl k) x ps.length | none => payTo pl ps k
def startsTo (pl : List Int) (ps : List (Int × Int × Int)) : Nat → Int
  | 0 => 0
  | k + 1 => match pl[k]? with | some x => startsTo pl ps k + startTo ps (befB pl k) x ps.length | none => startsTo pl ps k
def levsTo (v : Int) (fs pl : List Int) (ps : List (Int × Int × Int)) (k : Nat) : List Int := (List.range k).map fun j => levTo v fs pl ps (j + 1)
section
variable {v : Int} {fs pl : List Int} {ps : List (Int × Int × Int)}
theorem levTo_succ (k : Nat) (h : k < pl.length) (h2 : k < fs.length) : levTo v fs pl ps (k + 1) = levTo v fs pl ps k + fs[k] - outTo ps pl[k] ps.length := by
  rw [levTo, List.getElem?_eq_getElem h, List.getElem?_eq_getElem h2]
theorem pumpTo_succ (k : Nat) (h : k < pl.length) : pumpTo pl ps (k + 1) = pumpTo pl ps k + outTo ps pl[k] ps.length := by
  rw [pumpTo, List.getElem?_eq_getElem h]
theorem payTo_succ (k : Nat) (h : k < pl.length) : payTo pl ps (k + 1) = payTo pl ps k + costTo ps (befB pl k) pl[k] ps.length := by
  rw [payTo, List.getElem?_eq_getElem h]
theorem startsTo_succ (k : Nat) (h : k < pl.length) : startsTo pl ps (k + 1) = startsTo pl ps k + startTo ps (befB pl k) pl[k] ps.length := by
  rw [startsTo, List.getElem?_eq_getElem h]
theorem levsTo_succ (k : Nat) : levsTo v fs pl ps (k + 1) = levsTo v fs pl ps k ++ [levTo v fs pl ps (k + 1)] := by
  unfold levsTo
  rw [List.range_succ, List.map_append]; rfl
theorem levsTo_len (k : Nat) : (levsTo v fs pl ps k).length = k := by simp [levsTo]
theorem levTo_bd (hv : 0 ≤ v ∧ v ≤ 500) (hf : ∀ k (hk : k < fs.length), -50 ≤ fs[k] ∧ fs[k] ≤ 50) (hp : ∀ k (hk : k < ps.length), puOk ps[k] = true) (hn : ps.length ≤ 2) (hl : pl.length ≤ fs.length) : ∀ k : Nat, k ≤ pl.length → -(150 * (k : Int)) ≤ levTo v fs pl ps k ∧ levTo v fs pl ps k ≤ 500 + 50 * k
  | 0, _ => by simp only [levTo]; omega
  | k + 1, hk => by
    have ih := levTo_bd hv hf hp hn hl k (by omega)
    have h1 := hf k (by omega)
    have h2 := outTo_bd hp pl[k] ps.length (Nat.le_refl _)
    rw [levTo_succ k (by omega) (by omega)]
    omega
theorem pumpTo_bd (hp : ∀ k (hk : k < ps.length), puOk ps[k] = true) (hn : ps.length ≤ 2) : ∀ k : Nat, k ≤ pl.length → 0 ≤ pumpTo pl ps k ∧ pumpTo pl ps k ≤ 100 * k
  | 0, _ => by simp [pumpTo]
  | k + 1, hk => by
    have ih := pumpTo_bd hp hn k (by omega)
    have h2 := outTo_bd hp pl[k] ps.length (Nat.le_refl _)
    rw [pumpTo_succ k (by omega)]
    omega
theorem payTo_bd (hp : ∀ k (hk : k < ps.length), puOk ps[k] = true) (hn : ps.length ≤ 2) : ∀ k : Nat, k ≤ pl.length → 0 ≤ payTo pl ps k ∧ payTo pl ps k ≤ 140 * k
  | 0, _ => by simp [payTo]
  | k + 1, hk => by
    have ih := payTo_bd hp hn k (by omega)
    have h2 := costTo_bd hp (befB pl k) pl[k] ps.length (Nat.le_refl _)
    rw [payTo_succ k (by omega)]
    omega
theorem startsTo_bd (hn : ps.length ≤ 2) : ∀ k : Nat, k ≤ pl.length → 0 ≤ startsTo pl ps k ∧ startsTo pl ps k ≤ 2 * k
  | 0, _ => by simp [startsTo]
  | k + 1, hk => by
    have ih := startsTo_bd hn k (by omega)
    have h2 := startTo_bd (ps := ps) (befB pl k) pl[k] ps.length (Nat.le_refl _)
    rw [startsTo_succ k (by omega)]
    omega
theorem befB_bd (hb : ∀ k (hk : k < pl.length), 0 ≤ pl[k] ∧ pl[k] ≤ 3) (k : Nat) (hk : k ≤ pl.length) : 0 ≤ befB pl k ∧ befB pl k ≤ 3 := by
  cases k with
  | zero => simp [befB]
  | succ k => rw [befB_succ (by omega)]; exact hb k (by omega)
end

def noFl (x : Int) : Bool := !inB x (-50) 50
def noPu (x : Int × Int × Int) : Bool := !puOk x
theorem fl_any (fs : List Int) : fs.all flOk = !(fs.any noFl) := by
  rw [List.not_any_eq_all_not]
  congr 1
  funext x
  simp [noFl, flOk]
theorem pu_any (ps : List (Int × Int × Int)) : ps.all puOk = !(ps.any noPu) := by
  rw [List.not_any_eq_all_not]
  congr 1
  funext x
  simp [noPu]
theorem all_snoc {α : Type} (p : α → Bool) (xs : List α) (k : Nat) (h : k < xs.length) : (xs.take (k + 1)).all p = ((xs.take k).all p && p xs[k]) := by
  rw [List.take_succ_eq_append_getElem h, List.all_append]; simp
theorem all_miss {α : Type} {p : α → Bool} {xs : List α} {k : Nat} (h : k < xs.length) (hp : p xs[k] = false) : xs.all p = false := by
  rw [List.all_eq_false]; exact ⟨xs[k], List.getElem_mem h, by simp [hp]⟩
theorem taskB_nohead {l h v : Int} {fs : List Int} {ps : List (Int × Int × Int)} (e : headB l h v fs.length ps.length = false) : taskB l h v fs ps = false := by simp [taskB, e]

theorem info_In : (Try.prog.info? 3).map (fun i => (i.zero, i.size, i.bytes)) = some (some (.int .i64 0), 1, 8) := by kernel_rfl

theorem info_Pu : (Try.prog.info? 71).map (fun i => (i.zero, i.size, i.bytes)) = some (some (.agg #[.int .i64 0, .int .i64 0, .int .i64 0]), 3, 24) := by kernel_rfl

theorem int_eq {a b : Int} (h : a = b) : Value.int .i64 a = .int .i64 b := by rw [h]

end Go.Proofs.Ytpaclngjmdacjaa
namespace Go.Proofs.Ytpaclngjmdacjaa
set_option linter.unusedSimpArgs false
set_option linter.unusedVariables false
open Go.RowKit

def cB (x : Int) : List Value := [.int .u8 x]
/-- the cursor at block b: the code, how far it has come (m at most), the seed -/
def Cur (w : World) (b : Nat) (A : Option Addr) (n cap : Nat) (m : Int) : Prop :=
  b < w.heap.size ∧ w.cell? ⟨b, 0, none⟩ = some (.slice A n cap) ∧ (∃ a : Int, 0 ≤ a ∧ a ≤ m ∧ w.cell? ⟨b, 1, none⟩ = some (.int .i64 a)) ∧ (∃ s : Int, w.cell? ⟨b, 2, none⟩ = some (.int .u64 s)) ∧ ∀ o, w.frozen? ⟨b, o, none⟩ = false
def Bytes (cs : List Int) : Prop := ∀ k (hk : k < cs.length), 0 ≤ cs[k] ∧ cs[k] ≤ 255
theorem low8 (E : Int) (h0 : 0 ≤ E) (h1 : E ≤ 18446744073709551615) : 0 ≤ bits BinOp.and IntKind.u64 E 255 ∧ bits BinOp.and IntKind.u64 E 255 ≤ 255 := by
  have h := bits_and_u64_nat E.toNat 255 (by omega) (by omega)
  rw [Int.toNat_of_nonneg h0] at h
  have h3 : bits BinOp.and IntKind.u64 E 255 = ((E.toNat &&& 255 : Nat) : Int) := h
  have h2 : E.toNat &&& 255 ≤ 255 := Nat.and_le_right
  omega
theorem wrap_u64 (x : Int) : 0 ≤ IntKind.u64.wrap x ∧ IntKind.u64.wrap x ≤ 18446744073709551615 := by
  have : IntKind.u64.wrap x = x % 18446744073709551616 := rfl
  omega
theorem Cur.after {w w' : World} {b n cap : Nat} {A : Option Addr} {m a : Int} (hcu : Cur w b A n cap m) (ha : 0 ≤ a ∧ a ≤ m + 1) (h0 : w'.cell? ⟨b, 0, none⟩ = w.cell? ⟨b, 0, none⟩) (h1 : w'.cell? ⟨b, 1, none⟩ = some (.int .i64 a)) (h2 : ∃ s, w'.cell? ⟨b, 2, none⟩ = some (.int .u64 s))
    (hz : ∀ o, w'.frozen? ⟨b, o, none⟩ = w.frozen? ⟨b, o, none⟩) (hs : w.heap.size ≤ w'.heap.size) : Cur w' b A n cap (m + 1) := by
  obtain ⟨hb, q0, _, _, qz⟩ := hcu
  exact ⟨by omega, by rw [h0]; exact q0, ⟨a, ha.1, ha.2, h1⟩, h2, fun o => by rw [hz]; exact qz o⟩
theorem grown_drew {a w : World} {row : Option Nat} (h : a.grownBy w row) : a.grownBy w.drew row := ⟨h.os, h.tape, h.output, h.size, h.block⟩
set_option maxRecDepth 100000 in
set_option maxHeartbeats 2000000 in
theorem c_next (b : Nat) (A : Option Addr) (cs : List Int) (cap : Nat) (m : Int) (w : World) (hcu : Cur w b A cs.length cap m) (hr : RdsN b cB 1 w A cs) (hby : Bytes cs) (hm : 0 ≤ m ∧ m ≤ 1000000000) (hl : cs.length ≤ 1000000000) :
    Calls Try.prog 86 #[.pointer (some ⟨b, 0, none⟩)] w fun e w' => ∃ x : Int, e = .returned (.int .i64 x) ∧ 0 ≤ x ∧ x ≤ 255 ∧ Cur w' b A cs.length cap (m + 1) ∧ w.grownBy w' (some b) := by
  have hcu0 := hid hcu
  obtain ⟨hb, q0, ⟨a, ha0, ha1, q1⟩, ⟨s, q2⟩, qz⟩ := hcu
  have z1 := qz 1
  have z2 := qz 2
  by_cases hlt : a < cs.length
  · obtain ⟨k, rfl⟩ : ∃ k : Nat, a = k := ⟨a.toNat, by omega⟩
    have hk : k < cs.length := by omega
    obtain ⟨bx, ox, rfl, hbx, hcx⟩ := hr k cs[k] (List.getElem?_eq_getElem hk)
    have hx0 := hcx 0 _ rfl
    simp only [Nat.add_zero, Nat.mul_one] at hx0
    have hx := hby k hk
    clear hcx hr hby
    generalize cs[k] = x at *
    generalize hcl : cs.length = n at *
    go_enter Try.func86, Try.ntmps86
    go_wp2_with (fail)
    go_region
    all_goals go_wp2_with (fail)
    all_goals go_region
    all_goals go_wp2_with (fail)
    all_goals go_region
    all_goals go_wp2_with (fail)
    all_goals go_ret
    all_goals
      refine ⟨x, rfl, hx.1, hx.2, ?_, ?_⟩
      · refine Cur.after hcu0.out (a := k + 1) (by omega) ?_ ?_ ?_ (fun o => ?_) ?_
        · simp [go_sem]
        · simp [go_sem, q1]
        · refine ⟨?_, ?_⟩
          rotate_left
          · simp [go_sem, q2]
            rfl
        · simp [go_sem]
        · simp
      · repeat' first | exact World.grownBy.refl _ _ | refine grown_drew ?_ | refine grown_set ?_
  · have hx0 : (0 : Int) ≤ 0 := by omega
    clear hr hby
    generalize hcl : cs.length = n at *
    go_enter Try.func86, Try.ntmps86
    go_wp2_with (fail)
    go_region
    all_goals go_wp2_with (fail)
    all_goals go_region
    all_goals go_wp2_with (fail)
    have hw := wrap_u64 (IntKind.u64.wrap (IntKind.u64.wrap (s * 6364136223846793005)) + 924924)
    generalize hg : IntKind.u64.wrap (IntKind.u64.wrap (IntKind.u64.wrap (s * 6364136223846793005)) + 924924) = u at *
    have h8 := low8 (u / 1099511627776) (by omega) (by omega)
    generalize bits BinOp.and IntKind.u64 (u / 1099511627776) 255 = z at *
    have e : wrap64 z = z := by unfold wrap64; omega
    all_goals go_ret
    all_goals
      refine ⟨z, by (first | rfl | simp [e]),  h8.1, h8.2, ?_, ?_⟩
      · refine Cur.after hcu0.out (a := a + 1) (by omega) ?_ ?_ ?_ (fun o => ?_) ?_
        · simp [go_sem]
        · simp [go_sem, q1]
        · refine ⟨?_, ?_⟩
          rotate_left
          · simp [go_sem, q2]
            rfl
        · simp [go_sem]
        · simp
      · repeat' first | exact World.grownBy.refl _ _ | refine grown_drew ?_ | refine grown_set ?_

end Go.Proofs.Ytpaclngjmdacjaa
namespace Go.Proofs.Ytpaclngjmdacjaa
set_option linter.unusedSimpArgs false
set_option linter.unusedVariables false
open Go.RowKit

set_option maxHeartbeats 400000 in
theorem c_impl_inside (a b c : Int) (w : World)  :
    Calls Try.prog 61 #[.int .i64 (a), .int .i64 (b), .int .i64 (c)] w fun e w' => e = .returned (.bool (inB a b c)) ∧ Below w.heap.size w w' := by
  go_enter Try.func61, Try.ntmps61
  go_wp2
  all_goals go_ret
  all_goals
    refine ⟨ret_bool ?_, ?_⟩
    · first | rfl | omega | (simp [inB]; done) | (simp [inB]; omega) | (simp [inB]; (repeat' split) <;> (first | omega | (simp; done) | (simp; omega))) | (simp_all [inB]; done) | (simp_all [inB]; omega)
    · (repeat' (first | exact Below.refl _ _ | assumption | refine Below.setCell ?_ ?_ _ | refine Below.drew ?_ | refine Below.alloc ?_ ?_ _ | refine Below.trans ?_ (Below.mono (by assumption) ?_) | (simp; done) | (simp; omega) | omega))

set_option maxHeartbeats 400000 in
theorem c_spec_l1In (a b c : Int) (w : World)  :
    Calls Try.prog 59 #[.int .i64 (a), .int .i64 (b), .int .i64 (c)] w fun e w' => e = .returned (.bool (inB a b c)) ∧ Below w.heap.size w w' := by
  go_enter Try.func59, Try.ntmps59
  go_wp2
  all_goals go_ret
  all_goals
    refine ⟨ret_bool ?_, ?_⟩
    · first | rfl | omega | (simp [inB]; done) | (simp [inB]; omega) | (simp [inB]; (repeat' split) <;> (first | omega | (simp; done) | (simp; omega))) | (simp_all [inB]; done) | (simp_all [inB]; omega)
    · (repeat' (first | exact Below.refl _ _ | assumption | refine Below.setCell ?_ ?_ _ | refine Below.drew ?_ | refine Below.alloc ?_ ?_ _ | refine Below.trans ?_ (Below.mono (by assumption) ?_) | (simp; done) | (simp; omega) | omega))

set_option maxHeartbeats 400000 in
theorem c_spec_l1Least (a b : Int) (w : World)  :
    Calls Try.prog 84 #[.int .i64 (a), .int .i64 (b)] w fun e w' => e = .returned (.int .i64 (min a b)) ∧ Below w.heap.size w w' := by
  go_enter Try.func84, Try.ntmps84
  go_wp2
  all_goals go_ret
  all_goals
    refine ⟨ret_int ?_, ?_⟩
    · first | rfl | omega | (simp []; done) | (simp []; omega) | (simp []; (repeat' split) <;> (first | omega | (simp; done) | (simp; omega))) | (simp_all []; done) | (simp_all []; omega)
    · (repeat' (first | exact Below.refl _ _ | assumption | refine Below.setCell ?_ ?_ _ | refine Below.drew ?_ | refine Below.alloc ?_ ?_ _ | refine Below.trans ?_ (Below.mono (by assumption) ?_) | (simp; done) | (simp; omega) | omega))

end Go.Proofs.Ytpaclngjmdacjaa
namespace Go.Proofs.Ytpaclngjmdacjaa
set_option linter.unusedSimpArgs false
set_option linter.unusedVariables false
open Go.RowKit

set_option maxRecDepth 100000 in
set_option maxHeartbeats 4000000 in
theorem c_spec_l12Good (l h v : Int) (A : Option Addr) (fs : List Int) (capf : Nat) (B : Option Addr) (ps : List (Int × Int × Int)) (capq : Nat) (w : World) (hx : Rds cIn 1 w A fs) (hn : fs.length ≤ 9223372036854775807) (hy : Rds cPu 3 w B ps) (hm : ps.length ≤ 9223372036854775807) :
    Calls Try.prog 58 #[.agg #[.int .i64 l, .int .i64 h, .int .i64 v, .slice A fs.length capf, .slice B ps.length capq]] w fun e w' => e = .returned (.bool (taskB l h v fs ps)) ∧ Below w.heap.size w w' := by
  go_enter Try.func58, Try.ntmps58
  go_wp2_with (fail)
  go_loopw [3] (fun i wr => ∃ k : Nat, k ≤ fs.length ∧ i = .int .i64 k ∧ (fs.take k).all flOk = true ∧ wr.cell? ⟨w.heap.size, 0, none⟩ = some (.int .i64 l) ∧ wr.cell? ⟨w.heap.size, 1, none⟩ = some (.int .i64 h) ∧ wr.cell? ⟨w.heap.size, 2, none⟩ = some (.int .i64 v) ∧ wr.cell? ⟨w.heap.size, 3, none⟩ = some (.slice A fs.length capf) ∧ wr.cell? ⟨w.heap.size, 4, none⟩ = some (.slice B ps.length capq) ∧ w.heap.size + 1 ≤ wr.heap.size ∧ Below w.heap.size w wr) (fun i _ => fs.length - (intOf i).toNat)
  case atStart =>
    refine ⟨0, Nat.zero_le _, rfl, rfl, ?_, ?_, ?_, ?_, ?_, ?_, by (repeat' (first | exact Below.refl _ _ | assumption | refine Below.setCell ?_ ?_ _ | refine Below.drew ?_ | refine Below.alloc ?_ ?_ _ | refine Below.trans ?_ (Below.mono (by assumption) ?_) | (simp; done) | (simp; omega) | omega))⟩
    all_goals first | (simp [go_sem, ↓IntWalk.iteOmega, *]; done) | (simp at *; omega)
  case round =>
    obtain ⟨k, hk, rfl, han, hp0, hp1, hp2, hp3, hp4, hzz, hbr⟩ := hrel
    have hc := cellOf hbr
    have hf := frozOf hbr
    have hz := sizeOf hbr
    have hp0' : far _ _ _ = _ := hp0
    have hp1' : far _ _ _ = _ := hp1
    have hp2' : far _ _ _ = _ := hp2
    have hp3' : far _ _ _ = _ := hp3
    have hp4' : far _ _ _ = _ := hp4
    by_cases hlt : k < fs.length
    · obtain ⟨bx, ox, rfl, hbx, hcx⟩ := hx k fs[k] (List.getElem?_eq_getElem hlt)
      have hx0 := hcx 0 _ rfl
      simp only [Nat.add_zero, Nat.mul_one] at hx0
      have HS := hid (all_snoc flOk fs k hlt)
      have HA := hid han
      have HM := hid (fun e => all_miss (p := flOk) hlt e)
      clear hcx hx han
      generalize fs[k] = x at *
      by_cases hg : inB x (-50) 50 = true
      · have HG : Hid (flOk x = true) := hg
        clear HM
        go_wp2_with (first | (go_at_call 59; refine (c_spec_l1In _ _ _ _ ).mono ?_; rintro e w' ⟨rfl, hb⟩; have hc := cellOf hb; have hf := frozOf hb; have hz := sizeOf hb; try simp at hz))
        go_roundw
        case rel =>
          refine ⟨k + 1, by omega, by go_num, by rw [HS.out, HA.out, HG.out]; rfl, ?_, ?_, ?_, ?_, ?_, ?_, by (repeat' (first | exact Below.refl _ _ | assumption | refine Below.setCell ?_ ?_ _ | refine Below.drew ?_ | refine Below.alloc ?_ ?_ _ | refine Below.trans ?_ (Below.mono (by assumption) ?_) | (simp; done) | (simp; omega) | omega))⟩
          all_goals first | (simp [go_sem, ↓IntWalk.iteOmega, *]; done) | (simp [go_sem, ↓IntWalk.iteOmega, *]; omega) | omega
        case measure => simp [intOf]; omega
      · have hgf : inB x (-50) 50 = false := by simpa using hg
        have HV := hid (show taskB l h v fs ps = false by rw [taskB, HM.out hgf]; simp)
        clear hg HM
        go_wp2_with (first | (go_at_call 59; refine (c_spec_l1In _ _ _ _ ).mono ?_; rintro e w' ⟨rfl, hb⟩; have hc := cellOf hb; have hf := frozOf hb; have hz := sizeOf hb; try simp at hz))
        go_ret
        exact ⟨ret_bool (by rw [HV.out]), by (repeat' (first | exact Below.refl _ _ | assumption | refine Below.setCell ?_ ?_ _ | refine Below.drew ?_ | refine Below.alloc ?_ ?_ _ | refine Below.trans ?_ (Below.mono (by assumption) ?_) | (simp; done) | (simp; omega) | omega))⟩
    obtain rfl : k = fs.length := by omega
    rw [List.take_length] at han
    have HFL := hid han
    clear han hx
    go_wp2_with (fail)
    go_loopw [4] (fun i wv => ∃ q : Nat, q ≤ ps.length ∧ i = .int .i64 q ∧ (ps.take q).all puOk = true ∧ wv.cell? ⟨w.heap.size, 0, none⟩ = some (.int .i64 l) ∧ wv.cell? ⟨w.heap.size, 1, none⟩ = some (.int .i64 h) ∧ wv.cell? ⟨w.heap.size, 2, none⟩ = some (.int .i64 v) ∧ wv.cell? ⟨w.heap.size, 3, none⟩ = some (.slice A fs.length capf) ∧ wv.cell? ⟨w.heap.size, 4, none⟩ = some (.slice B ps.length capq) ∧ w.heap.size + 1 ≤ wv.heap.size ∧ Below w.heap.size w wv) (fun i _ => ps.length - (intOf i).toNat)
    case atStart =>
      refine ⟨0, Nat.zero_le _, rfl, rfl, ?_, ?_, ?_, ?_, ?_, ?_, by (repeat' (first | exact Below.refl _ _ | assumption | refine Below.setCell ?_ ?_ _ | refine Below.drew ?_ | refine Below.alloc ?_ ?_ _ | refine Below.trans ?_ (Below.mono (by assumption) ?_) | (simp; done) | (simp; omega) | omega))⟩
      all_goals first | (simp [go_sem, ↓IntWalk.iteOmega, *]; done) | (simp at *; omega) | assumption
    case round =>
      obtain ⟨q, hq, rfl, han, hp0, hp1, hp2, hp3, hp4, hzz, hbv⟩ := hrel
      clear hc hf hz
      have hc := cellOf hbv
      have hf := frozOf hbv
      have hz := sizeOf hbv
      have hp0' : far _ _ _ = _ := hp0
      have hp1' : far _ _ _ = _ := hp1
      have hp2' : far _ _ _ = _ := hp2
      have hp3' : far _ _ _ = _ := hp3
      have hp4' : far _ _ _ = _ := hp4
      by_cases hlt : q < ps.length
      · obtain ⟨bx, ox, rfl, hbx, hcx⟩ := hy q ps[q] (List.getElem?_eq_getElem hlt)
        have hx0 := hcx 0 _ rfl
        have hx1 := hcx 1 _ rfl
        have hx2 := hcx 2 _ rfl
        simp only [Nat.add_zero] at hx0
        have HS := hid (all_snoc puOk ps q hlt)
        have HA := hid han
        have HM := hid (fun e => all_miss (p := puOk) hlt e)
        clear hcx hy han
        generalize ps[q] = x at *
        by_cases hg : puOk x = true
        · have HG := hid hg
          have hg' := hg
          simp only [puOk, Bool.and_eq_true] at hg'
          obtain ⟨⟨hg1, hg2⟩, hg3⟩ := hg'
          clear HM hg
          go_wp2_with (first | (go_at_call 59; refine (c_spec_l1In _ _ _ _ ).mono ?_; rintro e w' ⟨rfl, hb⟩; have hc := cellOf hb; have hf := frozOf hb; have hz := sizeOf hb; try simp at hz))
          go_roundw
          case rel =>
            refine ⟨q + 1, by omega, by go_num, by rw [HS.out, HA.out, HG.out]; rfl, ?_, ?_, ?_, ?_, ?_, ?_, by (repeat' (first | exact Below.refl _ _ | assumption | refine Below.setCell ?_ ?_ _ | refine Below.drew ?_ | refine Below.alloc ?_ ?_ _ | refine Below.trans ?_ (Below.mono (by assumption) ?_) | (simp; done) | (simp; omega) | omega))⟩
            all_goals first | (simp [go_sem, ↓IntWalk.iteOmega, *]; done) | (simp [go_sem, ↓IntWalk.iteOmega, *]; omega) | omega
          case measure => simp [intOf]; omega
        · have hgf : puOk x = false := by simpa using hg
          have HV := hid (show taskB l h v fs ps = false by rw [taskB, HM.out hgf]; simp)
          clear hg HM
          by_cases hg1 : inB x.1 1 50 = true
          · by_cases hg2 : inB x.2.1 0 20 = true
            · have hg3 : inB x.2.2 0 50 = false := by simpa [puOk, hg1, hg2] using hgf
              clear hgf
              go_wp2_with (first | (go_at_call 59; refine (c_spec_l1In _ _ _ _ ).mono ?_; rintro e w' ⟨rfl, hb⟩; have hc := cellOf hb; have hf := frozOf hb; have hz := sizeOf hb; try simp at hz))
              go_ret
              exact ⟨ret_bool (by rw [HV.out]), by (repeat' (first | exact Below.refl _ _ | assumption | refine Below.setCell ?_ ?_ _ | refine Below.drew ?_ | refine Below.alloc ?_ ?_ _ | refine Below.trans ?_ (Below.mono (by assumption) ?_) | (simp; done) | (simp; omega) | omega))⟩
            · have hg2f : inB x.2.1 0 20 = false := by simpa using hg2
              clear hgf hg2
              go_wp2_with (first | (go_at_call 59; refine (c_spec_l1In _ _ _ _ ).mono ?_; rintro e w' ⟨rfl, hb⟩; have hc := cellOf hb; have hf := frozOf hb; have hz := sizeOf hb; try simp at hz))
              go_ret
              exact ⟨ret_bool (by rw [HV.out]), by (repeat' (first | exact Below.refl _ _ | assumption | refine Below.setCell ?_ ?_ _ | refine Below.drew ?_ | refine Below.alloc ?_ ?_ _ | refine Below.trans ?_ (Below.mono (by assumption) ?_) | (simp; done) | (simp; omega) | omega))⟩
          · have hg1f : inB x.1 1 50 = false := by simpa using hg1
            clear hgf hg1
            go_wp2_with (first | (go_at_call 59; refine (c_spec_l1In _ _ _ _ ).mono ?_; rintro e w' ⟨rfl, hb⟩; have hc := cellOf hb; have hf := frozOf hb; have hz := sizeOf hb; try simp at hz))
            go_ret
            exact ⟨ret_bool (by rw [HV.out]), by (repeat' (first | exact Below.refl _ _ | assumption | refine Below.setCell ?_ ?_ _ | refine Below.drew ?_ | refine Below.alloc ?_ ?_ _ | refine Below.trans ?_ (Below.mono (by assumption) ?_) | (simp; done) | (simp; omega) | omega))⟩
      · obtain rfl : q = ps.length := by omega
        rw [List.take_length] at han
        have HV := hid (show taskB l h v fs ps = headB l h v fs.length ps.length by rw [taskB, HFL.out, han]; simp)
        clear han hy
        go_wp2_with (first | (go_at_call 59; refine (c_spec_l1In _ _ _ _ ).mono ?_; rintro e w' ⟨rfl, hb⟩; have hc := cellOf hb; have hf := frozOf hb; have hz := sizeOf hb; try simp at hz))
        all_goals go_ret
        all_goals exact ⟨ret_bool (by rw [HV.out]; simp [headB, inB]; first | omega | (simp [inB] at *; omega)), by (repeat' (first | exact Below.refl _ _ | assumption | refine Below.setCell ?_ ?_ _ | refine Below.drew ?_ | refine Below.alloc ?_ ?_ _ | refine Below.trans ?_ (Below.mono (by assumption) ?_) | (simp; done) | (simp; omega) | omega))⟩

end Go.Proofs.Ytpaclngjmdacjaa
namespace Go.Proofs.Ytpaclngjmdacjaa
set_option linter.unusedSimpArgs false
set_option linter.unusedVariables false
open Go.RowKit

set_option maxHeartbeats 400000 in
theorem c_spec_IsPumpTask (l h v : Int) (A : Option Addr) (fs : List Int) (capf : Nat) (B : Option Addr) (ps : List (Int × Int × Int)) (capq : Nat) (w : World) (hx : Rds cIn 1 w A fs) (hn : fs.length ≤ 9223372036854775807) (hy : Rds cPu 3 w B ps) (hm : ps.length ≤ 9223372036854775807) :
    Calls Try.prog 43 #[.agg #[.int .i64 l, .int .i64 h, .int .i64 v, .slice A fs.length capf, .slice B ps.length capq]] w fun e w' => e = .returned (.bool (taskB l h v fs ps)) ∧ Below w.heap.size w w' := by
  go_enter Try.func43, Try.ntmps43
  go_wp2_with (first | (go_at_call 58; refine (c_spec_l12Good _ _ _ _ _ _ _ _ _ _ (by first | assumption | exact Rds.below hx (by (repeat' (first | exact Below.refl _ _ | assumption | refine Below.setCell ?_ ?_ _ | refine Below.drew ?_ | refine Below.alloc ?_ ?_ _ | refine Below.trans ?_ (Below.mono (by assumption) ?_) | (simp; done) | (simp; omega) | omega)))) (by omega) (by first | assumption | exact Rds.below hy (by (repeat' (first | exact Below.refl _ _ | assumption | refine Below.setCell ?_ ?_ _ | refine Below.drew ?_ | refine Below.alloc ?_ ?_ _ | refine Below.trans ?_ (Below.mono (by assumption) ?_) | (simp; done) | (simp; omega) | omega)))) (by omega)).mono ?_; rintro e w' ⟨rfl, hb⟩; have hc := cellOf hb; have hf := frozOf hb; have hz := sizeOf hb; try simp at hz))
  all_goals go_ret
  all_goals
    refine ⟨ret_bool ?_, ?_⟩
    · first | rfl | omega | (simp []; done) | (simp []; omega) | (simp []; (repeat' split) <;> (first | omega | (simp; done) | (simp; omega))) | (simp_all []; done) | (simp_all []; omega)
    · (repeat' (first | exact Below.refl _ _ | assumption | refine Below.setCell ?_ ?_ _ | refine Below.drew ?_ | refine Below.alloc ?_ ?_ _ | refine Below.trans ?_ (Below.mono (by assumption) ?_) | (simp; done) | (simp; omega) | omega))

end Go.Proofs.Ytpaclngjmdacjaa
namespace Go.Proofs.Ytpaclngjmdacjaa
set_option linter.unusedSimpArgs false
set_option linter.unusedVariables false
open Go.RowKit

theorem FreshA.emp {α : Type} {cf : α → List Value} {sz : Nat} {T : TypeId} {w w' : World} (hb : Below (w.heap.size + 1) (w.alloc (.cells #[] T)) w') : FreshA cf sz T w.heap.size w' (some ⟨w.heap.size, 0, none⟩) 0 ([] : List α) := by
  refine .inr ⟨w.heap.size, rfl, Nat.le_refl _, #[], ?_, by simp, Nat.le_refl _, by unfold maxLen; omega, fun i x h => by simp at h⟩
  rw [hb.block _ (by omega)]
  exact heap_alloc_new _ _
theorem FreshA.new {α : Type} {cf : α → List Value} {sz : Nat} {T : TypeId} {B : Nat} {w : World} (hB : B ≤ w.heap.size) : FreshA cf sz T B (w.alloc (.cells #[] T)) (some ⟨w.heap.size, 0, none⟩) 0 ([] : List α) :=
  .inr ⟨w.heap.size, rfl, hB, #[], heap_alloc_new _ _, by simp, Nat.le_refl _, by unfold maxLen; omega, fun i x h => by simp at h⟩
theorem FreshA.mk0 {α : Type} {cf : α → List Value} {sz : Nat} {T : TypeId} {B : Nat} {w : World} {g : Nat} (h : w.heap[g]? = some (.cells #[] T (0, 0))) (hB : B ≤ g) : FreshA cf sz T B w (some ⟨g, 0, none⟩) 0 ([] : List α) :=
  .inr ⟨g, rfl, hB, #[], h, by simp, Nat.le_refl _, by unfold maxLen; omega, fun i x h => by simp at h⟩
theorem NeB.mk0 {G g : Nat} (h : g ≠ G) : NeB G (some ⟨g, 0, none⟩) := by
  intro a ha
  cases ha
  exact h
theorem bits_and {x : Int} {q : Nat} (hx : 0 ≤ x ∧ x ≤ 3) (hq : q ≤ 1) : bits BinOp.and IntKind.i64 (x / 2 ^ q) 1 = if bitB x q = true then 1 else 0 := by
  obtain rfl | rfl | rfl | rfl : x = 0 ∨ x = 1 ∨ x = 2 ∨ x = 3 := by omega
  all_goals obtain rfl | rfl : q = 0 ∨ q = 1 := by omega
  all_goals decide
theorem row_a (w : World) (a b d : Obj) (T : TypeId) : ((((w.alloc a).alloc b).alloc (.cells #[] T)).alloc d).drew.heap[w.heap.size + 2]? = some (.cells #[] T) := by
  have e := heap_alloc_new ((w.alloc a).alloc b) (.cells #[] T)
  have hb : Below (((w.alloc a).alloc b).alloc (.cells #[] T)).heap.size (((w.alloc a).alloc b).alloc (.cells #[] T)) ((((w.alloc a).alloc b).alloc (.cells #[] T)).alloc d).drew := ((Below.refl _ _).alloc (Nat.le_refl _) _).drew
  have h2 := hb.block (w.heap.size + 2) (by simp)
  rw [h2]
  simpa using e
theorem row_b (w : World) (a b d : Obj) (T : TypeId) : ((((w.alloc a).alloc b).alloc d).alloc (.cells #[] T)).drew.heap[w.heap.size + 3]? = some (.cells #[] T) := by
  have e := heap_alloc_new (((w.alloc a).alloc b).alloc d) (.cells #[] T)
  have hb : Below ((((w.alloc a).alloc b).alloc d).alloc (.cells #[] T)).heap.size ((((w.alloc a).alloc b).alloc d).alloc (.cells #[] T)) ((((w.alloc a).alloc b).alloc d).alloc (.cells #[] T)).drew := (Below.refl _ _).drew
  have h2 := hb.block (w.heap.size + 3) (by simp)
  rw [h2]
  simpa using e
theorem topB_bd (n : Nat) : 0 ≤ topB n ∧ topB n ≤ 3 := by
  unfold topB
  split
  · omega
  · split <;> omega
theorem topB_shl {n : Nat} (h : n ≤ 2) : IntKind.i64.wrap (2 ^ n) = topB n + 1 := by
  obtain rfl | rfl | rfl : n = 0 ∨ n = 1 ∨ n = 2 := by omega
  all_goals decide
def waterV (l h v : Int) (fs : List Int) (ps : List (Int × Int × Int)) (pl : List Int) : Int × Bool := if planB l h v fs ps pl = true then (pumpTo pl ps pl.length, true) else (0, false)
def payV (l h v : Int) (fs : List Int) (ps : List (Int × Int × Int)) (pl : List Int) : Int × Bool := if planB l h v fs ps pl = true then (payTo pl ps pl.length, true) else (0, false)
def startV (l h v : Int) (fs : List Int) (ps : List (Int × Int × Int)) (pl : List Int) : Int × Bool := if planB l h v fs ps pl = true then (startsTo pl ps pl.length, true) else (0, false)
def levV (l h v : Int) (fs : List Int) (ps : List (Int × Int × Int)) (pl : List Int) : List Int × Bool := if planB l h v fs ps pl = true then (levsTo v fs pl ps pl.length, true) else ([], false)
theorem planB_facts {l h v : Int} {fs : List Int} {ps : List (Int × Int × Int)} {pl : List Int} (e : planB l h v fs ps pl = true) : (0 ≤ v ∧ v ≤ 500) ∧ ps.length ≤ 2 ∧ pl.length ≤ fs.length ∧ pl.length ≤ 5 ∧ (∀ k (hk : k < fs.length), -50 ≤ fs[k] ∧ fs[k] ≤ 50) ∧ (∀ k (hk : k < ps.length), puOk ps[k] = true) ∧ (∀ k (hk : k < pl.length), 0 ≤ pl[k] ∧ pl[k] ≤ 3) := by
  have h1 := planB_task e
  have h2 := headB_bd (taskB_head h1)
  have h3 := planB_len e
  exact ⟨by omega, by omega, by omega, by omega, taskB_fl h1, taskB_pu h1, fun k hk => bitsOk_bd (planB_bits e k hk)⟩
theorem levV_len (l h v : Int) (fs : List Int) (ps : List (Int × Int × Int)) (pl : List Int) : (levV l h v fs ps pl).1.length ≤ 5 := by
  unfold levV
  by_cases e : planB l h v fs ps pl = true
  · rw [if_pos e]
    have := planB_facts e
    rw [levsTo_len]
    omega
  · rw [if_neg e]; simp
theorem bef_case {pl : List Int} (k : Nat) (hk : k ≤ pl.length) : ((k : Int) - 1 = -1 ∧ befB pl k = 0) ∨ (∃ j : Nat, (k : Int) - 1 = (j : Int) ∧ pl[j]? = some (befB pl k)) := by
  cases k with
  | zero => left; exact ⟨by omega, rfl⟩
  | succ k => right; exact ⟨k, by omega, by rw [befB_succ (by omega), List.getElem?_eq_getElem]⟩
theorem FreshA.emp2 {α : Type} {cf : α → List Value} {sz : Nat} {T : TypeId} {w w' : World} {c : Array Value} {t : TypeId} (hb : Below (w.heap.size + 2) ((w.alloc (.cells c t)).alloc (.cells #[] T)) w') : FreshA cf sz T (w.heap.size + 1) w' (some ⟨w.heap.size + 1, 0, none⟩) 0 ([] : List α) := by
  have h := FreshA.emp (cf := cf) (sz := sz) (w := w.alloc (.cells c t)) (w' := w') (T := T) (by simpa using hb)
  simpa using h

end Go.Proofs.Ytpaclngjmdacjaa
namespace Go.Proofs.Ytpaclngjmdacjaa
set_option linter.unusedSimpArgs false
set_option linter.unusedVariables false
open Go.RowKit

def outL (l h x : Int) : Bool := !inB x l h

end Go.Proofs.Ytpaclngjmdacjaa
namespace Go.Proofs.Ytpaclngjmdacjaa
set_option linter.unusedSimpArgs false
set_option linter.unusedVariables false
open Go.RowKit

set_option maxHeartbeats 400000 in
theorem c_impl_firstUnsafe_1 (x l h : Int) (bp : Nat) (w : World) (hbp0 : w.cell? ⟨bp, 0, none⟩ = some (.int .i64 (l))) (hbp1 : w.cell? ⟨bp, 1, none⟩ = some (.int .i64 (h))) (hlbp : bp < w.heap.size) :
    Calls Try.prog 81 #[.int .i64 (x), .pointer (some ⟨bp, 0, none⟩)] w fun e w' => e = .returned (.bool (!inB x l h)) ∧ Below w.heap.size w w' := by
  go_enter Try.func81, Try.ntmps81
  go_wp2_with (first | (go_at_call 61; refine (c_impl_inside _ _ _ _ ).mono ?_; rintro e w' ⟨rfl, hb⟩; have hc := cellOf hb; have hf := frozOf hb; have hz := sizeOf hb; try simp at hz))
  all_goals go_ret
  all_goals
    refine ⟨ret_bool ?_, ?_⟩
    · first | rfl | omega | (simp []; done) | (simp []; omega) | (simp []; (repeat' split) <;> (first | omega | (simp; done) | (simp; omega))) | (simp_all []; done) | (simp_all []; omega)
    · (repeat' (first | exact Below.refl _ _ | assumption | refine Below.setCell ?_ ?_ _ | refine Below.drew ?_ | refine Below.alloc ?_ ?_ _ | refine Below.trans ?_ (Below.mono (by assumption) ?_) | (simp; done) | (simp; omega) | omega))

set_option maxHeartbeats 2000000 in
theorem c_idx_uns (A : Option Addr) (xs : List (Int)) (cap : Nat) (l h : Int) (bp : Nat) (w : World) (h0 : Rds cIn 1 w A xs) (hn : xs.length ≤ 9223372036854775807) (hbp0 : w.cell? ⟨bp, 0, none⟩ = some (.int .i64 (l))) (hbp1 : w.cell? ⟨bp, 1, none⟩ = some (.int .i64 (h))) (hlbp : bp < w.heap.size) :
    Calls Try.prog 80 #[.slice A xs.length cap, .func (.func 81) #[] #[.pointer (some ⟨bp, 0, none⟩)]] w fun e w' => e = .returned (.int .i64 (idxF (outL l h) xs)) ∧ Below w.heap.size w w' := by
  go_enter Try.func80, Try.ntmps80
  go_wp2_with (fail)
  go_loopw [5, 8] (fun _ i wr => ∃ k : Nat, k ≤ xs.length ∧ i = .int .i64 k ∧ (xs.take k).any (outL l h) = false ∧ Below w.heap.size w wr) (fun _ i _ => xs.length - (intOf i).toNat)
  case atStart => exact ⟨0, Nat.zero_le _, rfl, rfl, Below.refl _ _⟩
  case round =>
    obtain ⟨k, hk, rfl, hl, hbr⟩ := hrel
    have HT := hid hl
    clear hl
    by_cases hlt : k < xs.length
    · obtain ⟨bx, ox, rfl, hbx, hcx⟩ := h0 k xs[k] (List.getElem?_eq_getElem hlt)
      have hx0 := hcx 0 _ rfl
      simp only [Nat.add_zero, Nat.mul_one] at hx0
      clear hcx h0
      skip
      have HS := hid (any_snoc (outL l h) xs k hlt)
      have HH := hid (fun hp => idxF_hit (p := (outL l h)) (xs := xs) HT.out hlt hp)
      obtain ⟨x, hxk⟩ : ∃ x, x = xs[k] := ⟨_, rfl⟩
      simp only [← hxk] at hx0 HS HH
      clear hxk
      have hc := cellOf hbr
      have hf := frozOf hbr
      have hz := sizeOf hbr
      have mbp0 : wr.cell? ⟨bp, 0, none⟩ = some (.int .i64 (l)) := by rw [hc, if_pos hlbp]; exact hbp0
      have mbp1 : wr.cell? ⟨bp, 1, none⟩ = some (.int .i64 (h)) := by rw [hc, if_pos hlbp]; exact hbp1
      have mlbp : bp < wr.heap.size := by omega
      by_cases hp : (outL l h) x = true
      · have HP := hid hp
        have hp' := hp
        simp only [outL, Bool.not_eq_true', Bool.not_eq_false'] at hp'
        clear hp
        go_wp2_with (go_at_call 81; refine (c_impl_firstUnsafe_1 _ l h bp _ mbp0 mbp1 mlbp).mono ?_; rintro e w2 ⟨rfl, hb2⟩)
        go_ret
        exact ⟨ret_int (HH.out HP.out).symm, by (repeat' (first | exact Below.refl _ _ | assumption | refine Below.setCell ?_ ?_ _ | refine Below.drew ?_ | refine Below.alloc ?_ ?_ _ | refine Below.trans ?_ (Below.mono (by assumption) ?_) | (simp; done) | (simp; omega) | omega))⟩
      · have HP : Hid ((outL l h) x = false) := by show _ = _; simpa using hp
        have hp' := HP.out
        simp only [outL, Bool.not_eq_true', Bool.not_eq_false'] at hp'
        clear hp
        go_wp2_with (go_at_call 81; refine (c_impl_firstUnsafe_1 _ l h bp _ mbp0 mbp1 mlbp).mono ?_; rintro e w2 ⟨rfl, hb2⟩)
        go_roundw
        case rel => exact ⟨k + 1, by omega, by go_num, by rw [HS.out, HT.out, HP.out]; rfl, by (repeat' (first | exact Below.refl _ _ | assumption | refine Below.setCell ?_ ?_ _ | refine Below.drew ?_ | refine Below.alloc ?_ ?_ _ | refine Below.trans ?_ (Below.mono (by assumption) ?_) | (simp; done) | (simp; omega) | omega))⟩
        case measure => simp [intOf]; omega
    · obtain rfl : k = xs.length := by omega
      have HN := hid (idxF_none (p := (outL l h)) (xs := xs) (by have := HT.out; rwa [List.take_length] at this))
      go_wp2_with (fail)
      go_ret
      exact ⟨ret_int HN.out.symm, by (repeat' (first | exact Below.refl _ _ | assumption | refine Below.setCell ?_ ?_ _ | refine Below.drew ?_ | refine Below.alloc ?_ ?_ _ | refine Below.trans ?_ (Below.mono (by assumption) ?_) | (simp; done) | (simp; omega) | omega))⟩

set_option maxHeartbeats 2000000 in
theorem c_impl_firstUnsafe (l h v : Int) (A : Option Addr) (fs : List Int) (capf : Nat) (B : Option Addr) (ps : List (Int × Int × Int)) (capq : Nat) (D : Option Addr) (ys : List Int) (n capy : Nat) (w : World) (hr : Rds cIn 1 w D ys) (hnl : ys.length = n) (hnr : ys.length ≤ 9223372036854775807) :
    Calls Try.prog 57 #[.agg #[.int .i64 l, .int .i64 h, .int .i64 v, .slice A fs.length capf, .slice B ps.length capq], .slice D n capy] w fun e w' => e = .returned (.int .i64 (idxF (outL l h) ys)) ∧ Below w.heap.size w w' := by
  subst hnl
  go_enter Try.func57, Try.ntmps57
  go_wp2_with (go_at_call 80; refine (c_idx_uns _ _ _ l h w.heap.size _ (by first | assumption | exact Rds.below hr (by (repeat' (first | exact Below.refl _ _ | assumption | refine Below.setCell ?_ ?_ _ | refine Below.drew ?_ | refine Below.alloc ?_ ?_ _ | refine Below.trans ?_ (Below.mono (by assumption) ?_) | (simp; done) | (simp; omega) | omega)))) (by omega) (by first | assumption | (simp [go_sem, ↓IntWalk.iteOmega, *]; done)) (by first | assumption | (simp [go_sem, ↓IntWalk.iteOmega, *]; done)) (by first | omega | (simp; done) | (simp; omega))).mono ?_; rintro e w' ⟨rfl, hb⟩)
  go_ret
  exact ⟨rfl, by (repeat' (first | exact Below.refl _ _ | assumption | refine Below.setCell ?_ ?_ _ | refine Below.drew ?_ | refine Below.alloc ?_ ?_ _ | refine Below.trans ?_ (Below.mono (by assumption) ?_) | (simp; done) | (simp; omega) | omega))⟩

end Go.Proofs.Ytpaclngjmdacjaa
namespace Go.Proofs.Ytpaclngjmdacjaa
set_option linter.unusedSimpArgs false
set_option linter.unusedVariables false
open Go.RowKit

namespace Cheap

/-- the better one of what is held and what is offered -/
def upd (s r : List Int × Int) : List Int × Int :=
  if 0 ≤ r.2 ∧ (s.2 < 0 ∨ r.2 < s.2) then r else s

def leaf (bad : List Int → Bool) (cost : List Int → Int) (p : List Int) : List Int × Int :=
  if bad p = true then ([], -1) else (p, cost p)

/-- what the program does below a plan with `d` hours left -/
def visit (n : Nat) (bad : List Int → Bool) (cost : List Int → Int) :
    Nat → List Int → List Int × Int → List Int × Int
  | 0, p, s => upd s (leaf bad cost p)
  | d + 1, p, s => (List.range n).foldl (fun s (x : Nat) => visit n bad cost d (p ++ [(x : Int)]) s) s

/-- what the reference returns for a plan with `d` hours left -/
def best (n : Nat) (bad : List Int → Bool) (cost : List Int → Int) :
    Nat → List Int → List Int × Int
  | 0, p => leaf bad cost p
  | d + 1, p => if bad p = true then ([], -1) else
      (List.range n).foldl (fun s (x : Nat) => upd s (best n bad cost d (p ++ [(x : Int)]))) ([], -1)

theorem upd_none (s : List Int × Int) : upd s ([], -1) = s := by
  unfold upd
  simp

theorem upd_assoc (s a b : List Int × Int) : upd (upd s a) b = upd s (upd a b) := by
  unfold upd
  by_cases h1 : 0 ≤ a.2 ∧ (s.2 < 0 ∨ a.2 < s.2)
  · by_cases h2 : 0 ≤ b.2 ∧ (a.2 < 0 ∨ b.2 < a.2)
    · have h3 : 0 ≤ b.2 ∧ (s.2 < 0 ∨ b.2 < s.2) := by omega
      simp only [if_pos h1, if_pos h2, if_pos h3]
    · simp only [if_pos h1, if_neg h2]
  · by_cases h2 : 0 ≤ b.2 ∧ (a.2 < 0 ∨ b.2 < a.2)
    · simp only [if_neg h1, if_pos h2]
    · have h3 : ¬ (0 ≤ b.2 ∧ (s.2 < 0 ∨ b.2 < s.2)) := by omega
      simp only [if_neg h1, if_neg h2, if_neg h3]

theorem fold_upd (f : Nat → List Int × Int) (l : List Nat) (s : List Int × Int) :
    l.foldl (fun s x => upd s (f x)) s = upd s (l.foldl (fun s x => upd s (f x)) ([], -1)) := by
  induction l generalizing s with
  | nil => simp only [List.foldl_nil, upd_none]
  | cons x l ih =>
    simp only [List.foldl_cons]
    rw [ih (upd s (f x)), ih (upd ([], -1) (f x)), upd_assoc s]
    generalize l.foldl (fun s x => upd s (f x)) ([], -1) = R
    rw [upd_assoc ([], -1) (f x) R, ← upd_assoc s ([], -1), upd_none]

theorem visit_best (n : Nat) (bad : List Int → Bool) (cost : List Int → Int)
    (hb : ∀ p x, bad p = true → bad (p ++ [x]) = true) (d : Nat) :
    ∀ p s, visit n bad cost d p s = upd s (best n bad cost d p) ∧
      (bad p = true → best n bad cost d p = ([], -1)) := by
  induction d with
  | zero =>
    intro p s
    refine ⟨rfl, ?_⟩
    intro h
    simp only [best, leaf, if_pos h]
  | succ d ih =>
    intro p s
    have hf : ∀ (l : List Nat) s, l.foldl (fun s (x : Nat) => visit n bad cost d (p ++ [(x : Int)]) s) s
        = l.foldl (fun s (x : Nat) => upd s (best n bad cost d (p ++ [(x : Int)]))) s := by
      intro l
      induction l with
      | nil => intro s; rfl
      | cons x l ih2 =>
        intro s
        simp only [List.foldl_cons]
        rw [(ih (p ++ [(x : Int)]) s).1, ih2]
    refine ⟨?_, ?_⟩
    · by_cases h : bad p = true
      · simp only [visit, best, if_pos h, upd_none]
        rw [hf]
        have : ∀ (l : List Nat) s, l.foldl (fun s (x : Nat) => upd s (best n bad cost d (p ++ [(x : Int)]))) s = s := by
          intro l
          induction l with
          | nil => intro s; rfl
          | cons x l ih2 =>
            intro s
            simp only [List.foldl_cons]
            rw [(ih (p ++ [(x : Int)]) s).2 (hb p _ h), upd_none, ih2]
        exact this _ _
      · simp only [visit, best, if_neg h]
        rw [hf, fold_upd]
    · intro h
      simp only [best, if_pos h]

end Cheap

/-- a plan leaves the bounds after some hour -/
def badP (l h v : Int) (fs : List Int) (ps : List (Int × Int × Int)) (p : List Int) : Bool := (levsTo v fs p ps p.length).any (outL l h)
section
variable {l h v : Int} {fs : List Int} {ps : List (Int × Int × Int)}
theorem levTo_app (p : List Int) (x : Int) : ∀ k : Nat, k ≤ p.length → levTo v fs (p ++ [x]) ps k = levTo v fs p ps k
  | 0, _ => rfl
  | k + 1, hk => by
    have ih := levTo_app p x k (by omega)
    have e : (p ++ [x])[k]? = p[k]? := List.getElem?_append_left (by omega)
    unfold levTo
    rw [e, ih]
theorem levsTo_app (p : List Int) (x : Int) : levsTo v fs (p ++ [x]) ps p.length = levsTo v fs p ps p.length := by
  unfold levsTo
  apply List.map_congr_left
  intro j hj
  have := List.mem_range.1 hj
  exact levTo_app p x (j + 1) (by omega)
theorem badP_app (p : List Int) (x : Int) (e : badP l h v fs ps p = true) : badP l h v fs ps (p ++ [x]) = true := by
  unfold badP at *
  rw [List.length_append, List.length_singleton, levsTo_succ, levsTo_app, List.any_append, e]
  rfl
theorem badP_idx (p : List Int) : (0 ≤ idxF (outL l h) (levsTo v fs p ps p.length)) ↔ badP l h v fs ps p = true := idxF_any _ _
end
/-- how many numbers of pumps there are -/
def topN (n : Nat) : Nat := (topB n + 1).toNat
theorem topN_cast (n : Nat) : ((topN n : Nat) : Int) = topB n + 1 := by
  have := topB_bd n
  unfold topN
  omega
/-- the reference's best plan from a plan on -/
def bestP (l h v : Int) (fs : List Int) (ps : List (Int × Int × Int)) (d : Nat) (p : List Int) : List Int × Int := Cheap.best (topN ps.length) (badP l h v fs ps) (fun p => payTo p ps p.length) d p
/-- its loop: the first k numbers tried -/
def bestTo (l h v : Int) (fs : List Int) (ps : List (Int × Int × Int)) (d : Nat) (p : List Int) (k : Nat) : List Int × Int := (List.range k).foldl (fun s (x : Nat) => Cheap.upd s (bestP l h v fs ps d (p ++ [(x : Int)]))) ([], -1)
def visitP (l h v : Int) (fs : List Int) (ps : List (Int × Int × Int)) (d : Nat) (p : List Int) (s : List Int × Int) : List Int × Int := Cheap.visit (topN ps.length) (badP l h v fs ps) (fun p => payTo p ps p.length) d p s
def visitTo (l h v : Int) (fs : List Int) (ps : List (Int × Int × Int)) (d : Nat) (p : List Int) (s : List Int × Int) (k : Nat) : List Int × Int := (List.range k).foldl (fun s (x : Nat) => visitP l h v fs ps d (p ++ [(x : Int)]) s) s
section
variable {l h v : Int} {fs : List Int} {ps : List (Int × Int × Int)}
theorem bestTo_succ (d : Nat) (p : List Int) (k : Nat) : bestTo l h v fs ps d p (k + 1) = Cheap.upd (bestTo l h v fs ps d p k) (bestP l h v fs ps d (p ++ [(k : Int)])) := by
  unfold bestTo
  rw [List.range_succ, List.foldl_append]; rfl
theorem visitTo_succ (d : Nat) (p : List Int) (s : List Int × Int) (k : Nat) : visitTo l h v fs ps d p s (k + 1) = visitP l h v fs ps d (p ++ [(k : Int)]) (visitTo l h v fs ps d p s k) := by
  unfold visitTo
  rw [List.range_succ, List.foldl_append]; rfl
theorem bestP_bad (d : Nat) (p : List Int) (e : badP l h v fs ps p = true) : bestP l h v fs ps d p = ([], -1) :=
  (Cheap.visit_best _ _ _ (fun p x => badP_app p x) d p ([], -1)).2 e
theorem bestP_leaf (p : List Int) (e : badP l h v fs ps p = false) : bestP l h v fs ps 0 p = (p, payTo p ps p.length) := by
  unfold bestP Cheap.best Cheap.leaf
  rw [if_neg (by simp [e])]
theorem bestP_go (d : Nat) (p : List Int) (e : badP l h v fs ps p = false) : bestP l h v fs ps (d + 1) p = bestTo l h v fs ps d p (topN ps.length) := by
  unfold bestP
  rw [Cheap.best, if_neg (by simp [e])]
  rfl
theorem visitP_go (d : Nat) (p : List Int) (s : List Int × Int) : visitP l h v fs ps (d + 1) p s = visitTo l h v fs ps d p s (topN ps.length) := rfl
theorem visitP_leaf (p : List Int) (s : List Int × Int) (hc : 0 ≤ payTo p ps p.length) : visitP l h v fs ps 0 p s = if badP l h v fs ps p = false ∧ (s.2 < 0 ∨ payTo p ps p.length < s.2) then (p, payTo p ps p.length) else s := by
  show Cheap.upd s (Cheap.leaf _ _ p) = _
  unfold Cheap.leaf Cheap.upd
  by_cases e : badP l h v fs ps p = true
  · simp [e]
  · have e2 : badP l h v fs ps p = false := Bool.eq_false_iff.2 e
    simp [e2, hc]
theorem visit_is (d : Nat) : visitP l h v fs ps d [] ([], -1) = Cheap.upd ([], -1) (bestP l h v fs ps d []) :=
  (Cheap.visit_best _ _ _ (fun p x => badP_app p x) d [] ([], -1)).1
theorem upd_len {s r : List Int × Int} {n : Nat} (h1 : s.2 < 0 ∧ s.1 = [] ∨ s.1.length = n) (h2 : r.2 < 0 ∧ r.1 = [] ∨ r.1.length = n) : (Cheap.upd s r).2 < 0 ∧ (Cheap.upd s r).1 = [] ∨ (Cheap.upd s r).1.length = n := by
  unfold Cheap.upd
  split
  · exact h2
  · exact h1
end

end Go.Proofs.Ytpaclngjmdacjaa
namespace Go.Proofs.Ytpaclngjmdacjaa
set_option linter.unusedSimpArgs false
set_option linter.unusedVariables false
open Go.RowKit

section
variable {α : Type} {cf : α → List Value} {sz : Nat} {T : TypeId} {w w' : World} {A : Option Addr} {xs : List α} {g cap B : Nat}
theorem flatMap_src (hcf : ∀ x, (cf x).length = sz) (hsz : 0 < sz) {ys : List α} {ga oa : Nat} (hn : ∀ i (hi : i < ys.length) j u, (cf ys[i])[j]? = some u → w.cell? ⟨ga, oa + i * sz + j, none⟩ = some u) :
    ∀ j u, (ys.flatMap cf)[j]? = some u → w.cell? ((⟨ga, oa, none⟩ : Addr).add j) = some u := by
  intro p u hp
  have hpl : p < ys.length * sz := by
    rcases Nat.lt_or_ge p (ys.flatMap cf).length with hl | hl
    · rwa [flatMap_len hcf] at hl
    · rw [List.getElem?_eq_none hl] at hp; cases hp
  have hi : p / sz < ys.length := Nat.div_lt_of_lt_mul (by rw [Nat.mul_comm]; exact hpl)
  have hj : p % sz < sz := Nat.mod_lt _ hsz
  have e : p / sz * sz + p % sz = p := by rw [Nat.mul_comm]; exact Nat.div_add_mod p sz
  have hx : ys[p / sz]? = some ys[p / sz] := List.getElem?_eq_getElem hi
  have h7 := flatMap_at hcf ys _ _ _ hx hj
  rw [e, hp] at h7
  have h8 := hn _ hi _ _ h7.symm
  have e2 : (⟨ga, oa, none⟩ : Addr).add p = ⟨ga, oa + p, none⟩ := by
    unfold Addr.add
    by_cases h0 : p = 0 <;> simp [h0]
  rw [e2]
  rwa [show oa + p / sz * sz + p % sz = oa + p by omega] at h8
/-- 'append(s, ys...)' on a slice of the call's own -/
theorem wp_pushes {P : Program} {o : Oper} {a : Act} {K : Act → World → Prop} {Q : Exit → Act → World → Prop} (s x : Operand) (t : TypeId)
    (ho : o.op = .call { callee := .builtin .append, args := #[s, x], argTypes := #[t, t] })
    (e : TypeId) (i : TypeInfo) (z : Value) (bytes : Nat) (ht : P.underlying t = some (.slice e)) (hi : P.info? e = some i) (hz : i.zero = some z)
    (hsize : i.size = sz) (hby : i.bytes = bytes) (hzs : z.cells.size = sz) (hsz : 0 < sz) (hcf : ∀ x, (cf x).length = sz) (hone : ∀ x, ∀ u ∈ cf x, u.oneCell' = true)
    (n : Nat) (hn : xs.length = n) (hs : a.eval s = .slice A n cap) (hF : FreshA cf sz e B w A cap xs)
    (ys : List α) (m : Nat) (hm : ys.length = m) (ga oa c : Nat) (hx : a.eval x = .slice (some ⟨ga, oa, none⟩) m c) (hnews : ∀ i (hi : i < ys.length) j u, (cf ys[i])[j]? = some u → w.cell? ⟨ga, oa + i * sz + j, none⟩ = some u)
    (h63 : n + m ≤ maxLen) (hbytes : (n + m) * bytes ≤ 140737488355328) (hbase : B ≤ w.heap.size)
    (h : ∀ A' cap' w', FreshA cf sz e B w' A' cap' (xs ++ ys) → w.grownBy w' (blkO A) → (blkO A' = blkO A ∨ blkO A' = some w.heap.size) → K (a.put o.dst (.slice A' (n + m) cap')) w') : o.wp P a w K Q := by
  subst hn hm
  have hown := hF.own hcf hsz
  obtain ⟨v', w', hrun, hown', hg, _, hat⟩ := run_append_own_at (P := P) w B t o.type e i z sz bytes ht hi hz hsize hby hzs hsz _ _ _ hown ⟨ga, oa, none⟩ ys.length c (ys.flatMap cf) (flatMap_len hcf ys) (flatMap_src hcf hsz hnews) (fun u hu => by
    obtain ⟨y, _, hy⟩ := List.mem_flatMap.1 hu
    exact hone y u hy) h63 hbytes hbase
  unfold Oper.wp execOp
  simp only [ho, resolve, invoke, builtin, Sem.run_bind, Sem.run_pure, Result.andThen_ok, List.map_toArray, List.map_cons, List.map_nil, hs, hx, hrun]
  have hl : (xs ++ ys).length = xs.length + ys.length := by simp
  have hown2 : w'.ownsRow B e sz v' (xs ++ ys).length ((xs ++ ys).flatMap cf) := by
    rw [hl, List.flatMap_append]
    exact hown'
  obtain ⟨A', cap', rfl, hF'⟩ := FreshA.of_own hcf hown2
  have hb : ∀ (A : Option Addr) (n c : Nat), (Value.slice A n c).ownBlock = blkO A := fun A n c => by cases A <;> rfl
  rw [hb] at hg
  rw [hb, hb] at hat
  have := h A' cap' w' hF' hg hat
  rw [hl]
  exact this
theorem wpList_pushes {P : Program} {ops : Array Oper} {rest : List Oper} {o : Oper} {a : Act} {Q : Exit → Act → World → Prop} (hgd : o.guard = none) (s x : Operand) (t : TypeId)
    (ho : o.op = .call { callee := .builtin .append, args := #[s, x], argTypes := #[t, t] })
    (e : TypeId) (i : TypeInfo) (z : Value) (bytes : Nat) (ht : P.underlying t = some (.slice e)) (hi : P.info? e = some i) (hz : i.zero = some z)
    (hsize : i.size = sz) (hby : i.bytes = bytes) (hzs : z.cells.size = sz) (hsz : 0 < sz) (hcf : ∀ x, (cf x).length = sz) (hone : ∀ x, ∀ u ∈ cf x, u.oneCell' = true)
    (n : Nat) (hn : xs.length = n) (hs : a.eval s = .slice A n cap) (hF : FreshA cf sz e B w A cap xs)
    (ys : List α) (m : Nat) (hm : ys.length = m) (ga oa c : Nat) (hx : a.eval x = .slice (some ⟨ga, oa, none⟩) m c) (hnews : ∀ i (hi : i < ys.length) j u, (cf ys[i])[j]? = some u → w.cell? ⟨ga, oa + i * sz + j, none⟩ = some u)
    (h63 : n + m ≤ maxLen) (hbytes : (n + m) * bytes ≤ 140737488355328) (hbase : B ≤ w.heap.size)
    (h : ∀ A' cap' w', FreshA cf sz e B w' A' cap' (xs ++ ys) → w.grownBy w' (blkO A) → (blkO A' = blkO A ∨ blkO A' = some w.heap.size) → wpList P ops Q rest (a.put o.dst (.slice A' (n + m) cap')) w') : wpList P ops Q (o :: rest) a w :=
  wpList_plain hgd fun _ hK => wp_pushes s x t ho e i z bytes ht hi hz hsize hby hzs hsz hcf hone n hn hs hF ys m hm ga oa c hx hnews h63 hbytes hbase fun A' cap' w' h1 h2 h3 => hK _ _ (h A' cap' w' h1 h2 h3)
/-- an element is written -/
theorem OwnS.put {y : α} {k : Nat} (hcf : ∀ x, (cf x).length = sz) (h : OwnS cf sz T w g cap xs) (hk : k < xs.length) : OwnS cf sz T (stores w g (k * sz) (cf y)) g cap (xs.set k y) := by
  obtain ⟨cur, h1, h2, h3, h4, h5⟩ := h
  have hroom : (k + 1) * sz ≤ cap * sz := Nat.mul_le_mul_right sz (by omega)
  rw [Nat.succ_mul] at hroom
  obtain ⟨cur', e1, e2, e3⟩ := stores_heap (T := T) (cf y) w (k * sz) cur h1 (by rw [hcf]; omega)
  refine ⟨cur', e1, e2.trans h2, by simpa using h3, h4, fun i z hz j v hv => ?_⟩
  have hj := lt_of_cf hcf hv
  rw [e3, hcf]
  rw [List.getElem?_set] at hz
  split at hz
  · rename_i hi
    subst hi
    simp only [hk, if_true, Option.some.injEq] at hz
    subst hz
    rw [if_pos (by omega), Nat.add_sub_cancel_left]
    exact hv
  · rename_i hi
    rw [if_neg ?_]
    · exact h5 i z hz j v hv
    · intro hc
      rcases Nat.lt_or_gt_of_ne hi with hlt | hgt
      · have : (k + 1) * sz ≤ i * sz := Nat.mul_le_mul_right sz hlt
        rw [Nat.succ_mul] at this
        omega
      · have : (i + 1) * sz ≤ k * sz := Nat.mul_le_mul_right sz hgt
        rw [Nat.succ_mul] at this
        omega
/-- one cell of an element is written -/
theorem OwnS.put1 {y : α} {k j : Nat} {v : Value} (hcf : ∀ x, (cf x).length = sz) (h : OwnS cf sz T w g cap xs) (hk : k < xs.length) (hj : j < sz) (hy : cf y = (cf xs[k]).set j v) : OwnS cf sz T (w.setCell ⟨g, k * sz + j, none⟩ v) g cap (xs.set k y) := by
  obtain ⟨cur, h1, h2, h3, h4, h5⟩ := h
  have hroom : (k + 1) * sz ≤ cap * sz := Nat.mul_le_mul_right sz (by omega)
  rw [Nat.succ_mul] at hroom
  refine ⟨cur.setIfInBounds (k * sz + j) v, heap_setCell_self h1 _ _, by simpa using h2, by simpa using h3, h4, fun i z hz p u hu => ?_⟩
  have hp := lt_of_cf hcf hu
  rw [List.getElem?_set] at hz
  rw [Array.getElem?_setIfInBounds]
  split at hz
  · rename_i hi
    subst hi
    simp only [hk, if_true, Option.some.injEq] at hz
    subst hz
    rw [hy, List.getElem?_set] at hu
    by_cases hpj : j = p
    · subst hpj
      rw [if_pos rfl, if_pos (by omega)]
      rw [if_pos rfl, hcf, if_pos hp] at hu
      exact hu
    · rw [if_neg (by omega)]
      rw [if_neg hpj] at hu
      exact h5 k _ (List.getElem?_eq_getElem hk) p u hu
  · rename_i hi
    rw [if_neg ?_]
    · exact h5 i z hz p u hu
    · intro hc
      rcases Nat.lt_or_gt_of_ne hi with hlt | hgt
      · have : (k + 1) * sz ≤ i * sz := Nat.mul_le_mul_right sz hlt
        rw [Nat.succ_mul] at this
        omega
      · have : (i + 1) * sz ≤ k * sz := Nat.mul_le_mul_right sz hgt
        rw [Nat.succ_mul] at this
        omega
theorem FreshA.row (h : FreshA cf sz T B w A cap xs) (hne : 0 < xs.length) : ∃ g, A = some ⟨g, 0, none⟩ ∧ B ≤ g ∧ OwnS cf sz T w g cap xs := by
  rcases h with ⟨_, rfl, _⟩ | h
  · simp at hne
  · exact h
end

end Go.Proofs.Ytpaclngjmdacjaa
namespace Go.Proofs.Ytpaclngjmdacjaa
set_option linter.unusedSimpArgs false
set_option linter.unusedVariables false
open Go.RowKit

theorem rds_news {α : Type} {cf : α → List Value} {sz g : Nat} {w : World} {xs : List α} (h : Rds cf sz w (some ⟨g, 0, none⟩) xs) : ∀ i (hi : i < xs.length) j u, (cf xs[i])[j]? = some u → g < w.heap.size ∧ w.cell? ⟨g, 0 + i * sz + j, none⟩ = some u := by
  intro i hi j u hu
  obtain ⟨b, off, he, hb, hc⟩ := h i xs[i] (List.getElem?_eq_getElem hi)
  cases he
  exact ⟨hb, hc j u hu⟩

set_option maxRecDepth 100000 in
set_option maxHeartbeats 4000000 in
theorem c_spec_l1Own (g : Nat) (xs : List Int) (cap : Nat) (w : World) (hr : Rds cIn 1 w (some ⟨g, 0, none⟩) xs) (hn : xs.length ≤ 1000) :
    Calls Try.prog 60 #[.slice (some ⟨g, 0, none⟩) xs.length cap] w fun e w' => ∃ A' cap', e = .returned (.slice A' xs.length cap') ∧ FreshA cIn 1 3 w.heap.size w' A' cap' xs ∧ Below w.heap.size w w' := by
  obtain ⟨i0, hI0, hI1, hI2, hI3⟩ := info_parts info_In
  have HX := hid (rds_news hr)
  clear hr
  by_cases h0 : xs.length = 0
  · obtain rfl := List.eq_nil_of_length_eq_zero h0
    clear h0 HX
    go_enter Try.func60, Try.ntmps60
    go_wp2_with (fail)
    go_ret
    exact ⟨_, _, rfl, FreshA.new (Nat.le_refl _), by (repeat' (first | exact Below.refl _ _ | assumption | refine Below.setCell ?_ ?_ _ | refine Below.drew ?_ | refine Below.alloc ?_ ?_ _ | refine Below.trans ?_ (Below.mono (by assumption) ?_) | (simp; done) | (simp; omega) | omega))⟩
  have hpos : 0 < xs.length := by omega
  clear h0
  go_enter Try.func60, Try.ntmps60
  go_wp2_with (at_builtin; refine wpList_pushes (xs := ([] : List (Int))) rfl (.tmp 3) (.tmp 4) 22 rfl 3 i0 _ 8 Try.underlying22 hI0 hI1 hI2 hI3 rfl (by decide) (fun _ => rfl) one_In 0 rfl rfl (FreshA.new (B := w.heap.size) (by first | omega | (simp; omega) | (simp at *; omega))) xs _ rfl g 0 _ rfl ?_ ?_ ?_ ?_ ?_; (exact fun p hp j u hu => (Below.cell (p := ⟨g, _, none⟩) (show Below w.heap.size w _ by (repeat' (first | exact Below.refl _ _ | assumption | refine Below.setCell ?_ ?_ _ | refine Below.drew ?_ | refine Below.alloc ?_ ?_ _ | refine Below.trans ?_ (Below.mono (by assumption) ?_) | (simp; done) | (simp; omega) | omega))) (HX.out p hp j u hu).1).trans (HX.out p hp j u hu).2); (unfold maxLen; omega); omega; (first | omega | (simp; done) | (simp; omega) | exact (show Below w.heap.size w _ by (repeat' (first | exact Below.refl _ _ | assumption | refine Below.setCell ?_ ?_ _ | refine Below.drew ?_ | refine Below.alloc ?_ ?_ _ | refine Below.trans ?_ (Below.mono (by assumption) ?_) | (simp; done) | (simp; omega) | omega))).size | (simp [go_sem]; done) | (simp [go_sem]; omega)); intro A3 cp3 w3 hF3 hg3 hat3; simp only [List.nil_append, Nat.zero_add] at hF3; have hb3 := below_of_grown (B := w.heap.size) hg3 (fun a ha => by cases ha; first | exact Nat.le_refl _ | omega | (simp; omega) | (simp at *; omega)) (by first | omega | (simp; done) | (simp; omega) | exact (show Below w.heap.size w _ by (repeat' (first | exact Below.refl _ _ | assumption | refine Below.setCell ?_ ?_ _ | refine Below.drew ?_ | refine Below.alloc ?_ ?_ _ | refine Below.trans ?_ (Below.mono (by assumption) ?_) | (simp; done) | (simp; omega) | omega))).size); have hs3 := hg3.size; (try simp at hs3); have hBB : Below w.heap.size w w3 := Below.trans (show Below w.heap.size w _ by (repeat' (first | exact Below.refl _ _ | assumption | refine Below.setCell ?_ ?_ _ | refine Below.drew ?_ | refine Below.alloc ?_ ?_ _ | refine Below.trans ?_ (Below.mono (by assumption) ?_) | (simp; done) | (simp; omega) | omega))) hb3)
  go_ret
  exact ⟨_, _, rfl, hF3, by (repeat' (first | exact Below.refl _ _ | assumption | refine Below.setCell ?_ ?_ _ | refine Below.drew ?_ | refine Below.alloc ?_ ?_ _ | refine Below.trans ?_ (Below.mono (by assumption) ?_) | (simp; done) | (simp; omega) | omega))⟩

set_option maxRecDepth 100000 in
set_option maxHeartbeats 4000000 in
theorem c_impl_copyInts (g : Nat) (xs : List Int) (cap : Nat) (w : World) (hr : Rds cIn 1 w (some ⟨g, 0, none⟩) xs) (hn : xs.length ≤ 1000) :
    Calls Try.prog 62 #[.slice (some ⟨g, 0, none⟩) xs.length cap] w fun e w' => ∃ A' cap', e = .returned (.slice A' xs.length cap') ∧ FreshA cIn 1 3 w.heap.size w' A' cap' xs ∧ Below w.heap.size w w' := by
  obtain ⟨i0, hI0, hI1, hI2, hI3⟩ := info_parts info_In
  have HX := hid (rds_news hr)
  clear hr
  by_cases h0 : xs.length = 0
  · obtain rfl := List.eq_nil_of_length_eq_zero h0
    clear h0 HX
    go_enter Try.func62, Try.ntmps62
    go_wp2_with (fail)
    go_ret
    exact ⟨_, _, rfl, FreshA.new (Nat.le_refl _), by (repeat' (first | exact Below.refl _ _ | assumption | refine Below.setCell ?_ ?_ _ | refine Below.drew ?_ | refine Below.alloc ?_ ?_ _ | refine Below.trans ?_ (Below.mono (by assumption) ?_) | (simp; done) | (simp; omega) | omega))⟩
  have hpos : 0 < xs.length := by omega
  clear h0
  go_enter Try.func62, Try.ntmps62
  go_wp2_with (at_builtin; refine wpList_pushes (xs := ([] : List (Int))) rfl (.tmp 3) (.tmp 4) 22 rfl 3 i0 _ 8 Try.underlying22 hI0 hI1 hI2 hI3 rfl (by decide) (fun _ => rfl) one_In 0 rfl rfl (FreshA.new (B := w.heap.size) (by first | omega | (simp; omega) | (simp at *; omega))) xs _ rfl g 0 _ rfl ?_ ?_ ?_ ?_ ?_; (exact fun p hp j u hu => (Below.cell (p := ⟨g, _, none⟩) (show Below w.heap.size w _ by (repeat' (first | exact Below.refl _ _ | assumption | refine Below.setCell ?_ ?_ _ | refine Below.drew ?_ | refine Below.alloc ?_ ?_ _ | refine Below.trans ?_ (Below.mono (by assumption) ?_) | (simp; done) | (simp; omega) | omega))) (HX.out p hp j u hu).1).trans (HX.out p hp j u hu).2); (unfold maxLen; omega); omega; (first | omega | (simp; done) | (simp; omega) | exact (show Below w.heap.size w _ by (repeat' (first | exact Below.refl _ _ | assumption | refine Below.setCell ?_ ?_ _ | refine Below.drew ?_ | refine Below.alloc ?_ ?_ _ | refine Below.trans ?_ (Below.mono (by assumption) ?_) | (simp; done) | (simp; omega) | omega))).size | (simp [go_sem]; done) | (simp [go_sem]; omega)); intro A3 cp3 w3 hF3 hg3 hat3; simp only [List.nil_append, Nat.zero_add] at hF3; have hb3 := below_of_grown (B := w.heap.size) hg3 (fun a ha => by cases ha; first | exact Nat.le_refl _ | omega | (simp; omega) | (simp at *; omega)) (by first | omega | (simp; done) | (simp; omega) | exact (show Below w.heap.size w _ by (repeat' (first | exact Below.refl _ _ | assumption | refine Below.setCell ?_ ?_ _ | refine Below.drew ?_ | refine Below.alloc ?_ ?_ _ | refine Below.trans ?_ (Below.mono (by assumption) ?_) | (simp; done) | (simp; omega) | omega))).size); have hs3 := hg3.size; (try simp at hs3); have hBB : Below w.heap.size w w3 := Below.trans (show Below w.heap.size w _ by (repeat' (first | exact Below.refl _ _ | assumption | refine Below.setCell ?_ ?_ _ | refine Below.drew ?_ | refine Below.alloc ?_ ?_ _ | refine Below.trans ?_ (Below.mono (by assumption) ?_) | (simp; done) | (simp; omega) | omega))) hb3)
  go_ret
  exact ⟨_, _, rfl, hF3, by (repeat' (first | exact Below.refl _ _ | assumption | refine Below.setCell ?_ ?_ _ | refine Below.drew ?_ | refine Below.alloc ?_ ?_ _ | refine Below.trans ?_ (Below.mono (by assumption) ?_) | (simp; done) | (simp; omega) | omega))⟩

end Go.Proofs.Ytpaclngjmdacjaa
namespace Go.Proofs.Ytpaclngjmdacjaa
set_option linter.unusedSimpArgs false
set_option linter.unusedVariables false
open Go.RowKit

def FS49_6 (l h v : Int) (A : Option Addr) (nf capf : Nat) (B : Option Addr) (np capq : Nat) (x : Int) (bx ox k n0 capp : Nat) (w W0 : World) (iq : Nat) (v : Value) (w1 : World) : Prop := match iq with
  | 0 => v = .slice (some ⟨bx, ox, none⟩) n0 capp
  | 1 => v = .int .i64 (k)
  | 2 => v = .pointer (some ⟨bx, ox + k, none⟩)
  | 3 => v = .int .i64 (x)
  | 4 => v = .pointer (some ⟨w.heap.size, 4, none⟩)
  | 5 => v = .slice B np capq
  | 6 => v = .int .i64 (np)
  | 7 => v = .int .u64 (np)
  | 8 => v = .int .i64 (topB np + 1)
  | 9 => v = .int .i64 ((topB np + 1) - 1)
  | 10 => v = .bool (inB (x) (0) ((topB np + 1) - 1))
  | 11 => v = .bool (!(inB (x) (0) ((topB np + 1) - 1)))
  | _ => True

set_option maxRecDepth 100000 in
set_option maxHeartbeats 4000000 in
theorem c_spec_l12Plan (l h v : Int) (A : Option Addr) (fs : List Int) (capf : Nat) (B : Option Addr) (ps : List (Int × Int × Int)) (capq : Nat) (C : Option Addr) (pl : List Int) (capp : Nat) (w : World) (hx : Rds cIn 1 w A fs) (hn : fs.length ≤ 9223372036854775807) (hy : Rds cPu 3 w B ps) (hm : ps.length ≤ 9223372036854775807) (hr : Rds cIn 1 w C pl) (hnr : pl.length ≤ 9223372036854775807) :
    Calls Try.prog 49 #[.agg #[.int .i64 l, .int .i64 h, .int .i64 v, .slice A fs.length capf, .slice B ps.length capq], .slice C pl.length capp] w fun e w' => e = .returned (.bool (planB l h v fs ps pl)) ∧ Below w.heap.size w w' := by
  by_cases hs0 : taskB l h v fs ps = true
  rotate_left
  · have hn0 : taskB l h v fs ps = false := Bool.eq_false_iff.2 hs0
    have HV := hid (show planB l h v fs ps pl = false by simp [planB, hn0])
    clear hs0
    go_enter Try.func49, Try.ntmps49
    go_wp2_with (first | (go_at_call 58; refine (c_spec_l12Good _ _ _ _ _ _ _ _ _ _ (by first | assumption | exact Rds.below hx (by (repeat' (first | exact Below.refl _ _ | assumption | refine Below.setCell ?_ ?_ _ | refine Below.drew ?_ | refine Below.alloc ?_ ?_ _ | refine Below.trans ?_ (Below.mono (by assumption) ?_) | (simp; done) | (simp; omega) | omega)))) (by omega) (by first | assumption | exact Rds.below hy (by (repeat' (first | exact Below.refl _ _ | assumption | refine Below.setCell ?_ ?_ _ | refine Below.drew ?_ | refine Below.alloc ?_ ?_ _ | refine Below.trans ?_ (Below.mono (by assumption) ?_) | (simp; done) | (simp; omega) | omega)))) (by omega)).mono ?_; rintro e w' ⟨rfl, hb⟩; have hc := cellOf hb; have hf := frozOf hb; have hz := sizeOf hb; try simp at hz))
    all_goals go_ret
    all_goals exact ⟨by first | (rw [HV.out]; done) | (rw [HV.out]; rfl), by (repeat' (first | exact Below.refl _ _ | assumption | refine Below.setCell ?_ ?_ _ | refine Below.drew ?_ | refine Below.alloc ?_ ?_ _ | refine Below.trans ?_ (Below.mono (by assumption) ?_) | (simp; done) | (simp; omega) | omega))⟩
  by_cases hs1 : pl.length = fs.length
  rotate_left
  · have HV := hid (show planB l h v fs ps pl = false by simp [planB, hs1])
    go_enter Try.func49, Try.ntmps49
    go_wp2_with (first | (go_at_call 58; refine (c_spec_l12Good _ _ _ _ _ _ _ _ _ _ (by first | assumption | exact Rds.below hx (by (repeat' (first | exact Below.refl _ _ | assumption | refine Below.setCell ?_ ?_ _ | refine Below.drew ?_ | refine Below.alloc ?_ ?_ _ | refine Below.trans ?_ (Below.mono (by assumption) ?_) | (simp; done) | (simp; omega) | omega)))) (by omega) (by first | assumption | exact Rds.below hy (by (repeat' (first | exact Below.refl _ _ | assumption | refine Below.setCell ?_ ?_ _ | refine Below.drew ?_ | refine Below.alloc ?_ ?_ _ | refine Below.trans ?_ (Below.mono (by assumption) ?_) | (simp; done) | (simp; omega) | omega)))) (by omega)).mono ?_; rintro e w' ⟨rfl, hb⟩; have hc := cellOf hb; have hf := frozOf hb; have hz := sizeOf hb; try simp at hz))
    all_goals go_ret
    all_goals exact ⟨by first | (rw [HV.out]; done) | (rw [HV.out]; rfl), by (repeat' (first | exact Below.refl _ _ | assumption | refine Below.setCell ?_ ?_ _ | refine Below.drew ?_ | refine Below.alloc ?_ ?_ _ | refine Below.trans ?_ (Below.mono (by assumption) ?_) | (simp; done) | (simp; omega) | omega))⟩
  have hn2 := headB_bd (taskB_head hs0)
  have HV := hid (show planB l h v fs ps pl = pl.all (bitsOk ps.length) by rw [planB, hs0]; simp [hs1])
  have hpl5 : pl.length ≤ 5 := by omega
  have HPW := hid (topB_shl (n := ps.length) (by omega))
  have htb := topB_bd ps.length
  obtain ⟨hs1a, hs1b⟩ : pl.length ≤ fs.length ∧ fs.length ≤ pl.length := by omega
  have hsI : (pl.length : Int) = (fs.length : Int) := by omega
  clear hs1
  go_enter Try.func49, Try.ntmps49
  go_wp2_with (first | (go_at_call 58; refine (c_spec_l12Good _ _ _ _ _ _ _ _ _ _ (by first | assumption | exact Rds.below hx (by (repeat' (first | exact Below.refl _ _ | assumption | refine Below.setCell ?_ ?_ _ | refine Below.drew ?_ | refine Below.alloc ?_ ?_ _ | refine Below.trans ?_ (Below.mono (by assumption) ?_) | (simp; done) | (simp; omega) | omega)))) (by omega) (by first | assumption | exact Rds.below hy (by (repeat' (first | exact Below.refl _ _ | assumption | refine Below.setCell ?_ ?_ _ | refine Below.drew ?_ | refine Below.alloc ?_ ?_ _ | refine Below.trans ?_ (Below.mono (by assumption) ?_) | (simp; done) | (simp; omega) | omega)))) (by omega)).mono ?_; rintro e w' ⟨rfl, hb⟩; have hc := cellOf hb; have hf := frozOf hb; have hz := sizeOf hb; try simp at hz))
  clear hsI hs0
  go_loopw [5] (fun i wr => ∃ k : Nat, k ≤ pl.length ∧ i = .int .i64 k ∧ (pl.take k).all (bitsOk ps.length) = true ∧ wr.cell? ⟨w.heap.size, 0, none⟩ = some (.int .i64 l) ∧ wr.cell? ⟨w.heap.size, 1, none⟩ = some (.int .i64 h) ∧ wr.cell? ⟨w.heap.size, 2, none⟩ = some (.int .i64 v) ∧ wr.cell? ⟨w.heap.size, 3, none⟩ = some (.slice A fs.length capf) ∧ wr.cell? ⟨w.heap.size, 4, none⟩ = some (.slice B ps.length capq) ∧ w.heap.size + 1 ≤ wr.heap.size ∧ Below w.heap.size w wr) (fun i _ => pl.length - (intOf i).toNat)
  case atStart =>
    refine ⟨0, Nat.zero_le _, rfl, rfl, ?_, ?_, ?_, ?_, ?_, ?_, by (repeat' (first | exact Below.refl _ _ | assumption | refine Below.setCell ?_ ?_ _ | refine Below.drew ?_ | refine Below.alloc ?_ ?_ _ | refine Below.trans ?_ (Below.mono (by assumption) ?_) | (simp; done) | (simp; omega) | omega))⟩
    all_goals first | (simp [go_sem, ↓IntWalk.iteOmega, *]; done) | (simp at *; omega)
  case round =>
    obtain ⟨k, hk, rfl, han, hp0, hp1, hp2, hp3, hp4, hzz, hbr⟩ := hrel
    have hc := cellOf hbr
    have hf := frozOf hbr
    have hz := sizeOf hbr
    have hp0' : far _ _ _ = _ := hp0
    have hp1' : far _ _ _ = _ := hp1
    have hp2' : far _ _ _ = _ := hp2
    have hp3' : far _ _ _ = _ := hp3
    have hp4' : far _ _ _ = _ := hp4
    by_cases hlt : k < pl.length
    · obtain ⟨bx, ox, rfl, hbx, hcx⟩ := hr k pl[k] (List.getElem?_eq_getElem hlt)
      have hx0 := hcx 0 _ rfl
      simp only [Nat.add_zero, Nat.mul_one] at hx0
      have HS := hid (all_snoc (bitsOk ps.length) pl k hlt)
      have HA := hid han
      have HM := hid (fun e => HV.out.trans (all_miss (p := bitsOk ps.length) hlt e))
      have hpw := HPW.out
      clear hcx hr han
      generalize pl[k] = x at *
      go_wp2_with (fail)
      refine wp_region_w (n := 12) [] [] (FS49_6 l h v A fs.length capf B ps.length capq x bx ox k pl.length capp w) rfl (by kernel_rfl) (fun _ _ d _ _ h => by cases d <;> exact h) ?_ ?_ ?_ ?_ ?_ ?_
      · intro iq
        match iq with
        | 0 | 1 | 2 | 3 | 4 | 5 | 6 | 7 | 8 | 9 | 10 | 11 => exact Stable.const _
        | n + 12 => exact Stable.const _
      · intro iq hi
        exact absurd hi (by simp)
      · intro iq hi
        exact absurd hi (by simp)
      · intro iq o hi hl ho vals w1 hb1 hf
        exact absurd hl (by simp)
      · intro iq o hi hl ho vals w1 hb1 hf
        match iq, hi with
        | 0, _ =>
          injection ho with ho
          subst ho
          clear hl
          simp only [fillA, List.take, List.drop, put_none, Act.put, List.setIfInBounds_toArray, List.set_cons_zero, List.set_cons_succ, Nat.reduceAdd]
          clear hf
          go_wp2_with (fail)
          exact RQ.mk rfl ⟨(by first | rfl | (simp [FS49_6]; done) | (simp [FS49_6, *]; done) | (simp [FS49_6, gotV]; done) | (simp [FS49_6, gotV]; omega)), fun h => absurd h (by decide)⟩ (Below.refl _ _)
        | 1, _ =>
          injection ho with ho
          subst ho
          clear hl
          simp only [fillA, List.take, List.drop, put_none, Act.put, List.setIfInBounds_toArray, List.set_cons_zero, List.set_cons_succ, Nat.reduceAdd]
          clear hf
          go_wp2_with (fail)
          exact RQ.mk rfl ⟨(by first | rfl | (simp [FS49_6]; done) | (simp [FS49_6, *]; done) | (simp [FS49_6, gotV]; done) | (simp [FS49_6, gotV]; omega)), fun h => absurd h (by decide)⟩ (Below.refl _ _)
        | 2, _ =>
          injection ho with ho
          subst ho
          clear hl
          simp only [fillA, List.take, List.drop, put_none, Act.put, List.setIfInBounds_toArray, List.set_cons_zero, List.set_cons_succ, Nat.reduceAdd]
          have f0 := hf 0 (by decide) (by kernel_rfl)
          generalize vals 0 = v0 at *
          subst f0
          have f1 := hf 1 (by decide) (by kernel_rfl)
          generalize vals 1 = v1 at *
          subst f1
          clear hf
          go_wp2_with (fail)
          exact RQ.mk rfl ⟨(by first | rfl | (simp [FS49_6]; done) | (simp [FS49_6, *]; done) | (simp [FS49_6, gotV]; done) | (simp [FS49_6, gotV]; omega)), fun h => absurd h (by decide)⟩ (Below.refl _ _)
        | 3, _ =>
          injection ho with ho
          subst ho
          clear hl
          simp only [fillA, List.take, List.drop, put_none, Act.put, List.setIfInBounds_toArray, List.set_cons_zero, List.set_cons_succ, Nat.reduceAdd]
          have f2 := hf 2 (by decide) (by kernel_rfl)
          generalize vals 2 = v2 at *
          subst f2
          clear hf
          have hc1 := cellOf hb1
          have hf1 := frozOf hb1
          have hz1 := sizeOf hb1
          try simp at hz1
          go_wp2_with (fail)
          exact RQ.mk rfl ⟨(by first | rfl | (simp [FS49_6]; done) | (simp [FS49_6, *]; done) | (simp [FS49_6, gotV]; done) | (simp [FS49_6, gotV]; omega)), fun h => absurd h (by decide)⟩ (Below.refl _ _)
        | 4, _ =>
          injection ho with ho
          subst ho
          clear hl
          simp only [fillA, List.take, List.drop, put_none, Act.put, List.setIfInBounds_toArray, List.set_cons_zero, List.set_cons_succ, Nat.reduceAdd]
          clear hf
          go_wp2_with (fail)
          exact RQ.mk rfl ⟨(by first | rfl | (simp [FS49_6]; done) | (simp [FS49_6, *]; done) | (simp [FS49_6, gotV]; done) | (simp [FS49_6, gotV]; omega)), fun h => absurd h (by decide)⟩ (Below.refl _ _)
        | 5, _ =>
          injection ho with ho
          subst ho
          clear hl
          simp only [fillA, List.take, List.drop, put_none, Act.put, List.setIfInBounds_toArray, List.set_cons_zero, List.set_cons_succ, Nat.reduceAdd]
          have f4 := hf 4 (by decide) (by kernel_rfl)
          generalize vals 4 = v4 at *
          subst f4
          clear hf
          have hc1 := cellOf hb1
          have hf1 := frozOf hb1
          have hz1 := sizeOf hb1
          try simp at hz1
          go_wp2_with (fail)
          exact RQ.mk rfl ⟨(by first | rfl | (simp [FS49_6]; done) | (simp [FS49_6, *]; done) | (simp [FS49_6, gotV]; done) | (simp [FS49_6, gotV]; omega)), fun h => absurd h (by decide)⟩ (Below.refl _ _)
        | 6, _ =>
          injection ho with ho
          subst ho
          clear hl
          simp only [fillA, List.take, List.drop, put_none, Act.put, List.setIfInBounds_toArray, List.set_cons_zero, List.set_cons_succ, Nat.reduceAdd]
          have f5 := hf 5 (by decide) (by kernel_rfl)
          generalize vals 5 = v5 at *
          subst f5
          clear hf
          have hc1 := cellOf hb1
          have hf1 := frozOf hb1
          have hz1 := sizeOf hb1
          try simp at hz1
          go_wp2_with (fail)
          exact RQ.mk rfl ⟨(by first | rfl | (simp [FS49_6]; done) | (simp [FS49_6, *]; done) | (simp [FS49_6, gotV]; done) | (simp [FS49_6, gotV]; omega)), fun h => absurd h (by decide)⟩ (by (repeat' (first | exact Below.refl _ _ | assumption | refine Below.setCell ?_ ?_ _ | refine Below.drew ?_ | refine Below.alloc ?_ ?_ _ | refine Below.trans ?_ (Below.mono (by assumption) ?_) | (simp; done) | (simp; omega) | omega)))
        | 7, _ =>
          injection ho with ho
          subst ho
          clear hl
          simp only [fillA, List.take, List.drop, put_none, Act.put, List.setIfInBounds_toArray, List.set_cons_zero, List.set_cons_succ, Nat.reduceAdd]
          have f6 := hf 6 (by decide) (by kernel_rfl)
          generalize vals 6 = v6 at *
          subst f6
          clear hf
          go_wp2_with (fail)
          exact RQ.mk rfl ⟨(by first | rfl | (simp [FS49_6]; done) | (simp [FS49_6, *]; done) | (simp [FS49_6, gotV]; done) | (simp [FS49_6, gotV]; omega)), fun h => absurd h (by decide)⟩ (Below.refl _ _)
        | 8, _ =>
          injection ho with ho
          subst ho
          clear hl
          simp only [fillA, List.take, List.drop, put_none, Act.put, List.setIfInBounds_toArray, List.set_cons_zero, List.set_cons_succ, Nat.reduceAdd]
          have f7 := hf 7 (by decide) (by kernel_rfl)
          generalize vals 7 = v7 at *
          subst f7
          clear hf
          go_wp2_with (fail)
          exact RQ.mk rfl ⟨(by first | rfl | (simp [FS49_6]; done) | (simp [FS49_6, *]; done) | (simp [FS49_6, gotV]; done) | (simp [FS49_6, gotV]; omega)), fun h => absurd h (by decide)⟩ (Below.refl _ _)
        | 9, _ =>
          injection ho with ho
          subst ho
          clear hl
          simp only [fillA, List.take, List.drop, put_none, Act.put, List.setIfInBounds_toArray, List.set_cons_zero, List.set_cons_succ, Nat.reduceAdd]
          have f8 := hf 8 (by decide) (by kernel_rfl)
          generalize vals 8 = v8 at *
          subst f8
          clear hf
          go_wp2_with (fail)
          exact RQ.mk rfl ⟨(by first | rfl | (simp [FS49_6]; done) | (simp [FS49_6, *]; done) | (simp [FS49_6, gotV]; done) | (simp [FS49_6, gotV]; omega)), fun h => absurd h (by decide)⟩ (Below.refl _ _)
        | 10, _ =>
          injection ho with ho
          subst ho
          clear hl
          simp only [fillA, List.take, List.drop, put_none, Act.put, List.setIfInBounds_toArray, List.set_cons_zero, List.set_cons_succ, Nat.reduceAdd]
          have f3 := hf 3 (by decide) (by kernel_rfl)
          generalize vals 3 = v3 at *
          subst f3
          have f9 := hf 9 (by decide) (by kernel_rfl)
          generalize vals 9 = v9 at *
          subst f9
          clear hf
          have hc1 := cellOf hb1
          have hf1 := frozOf hb1
          have hz1 := sizeOf hb1
          try simp at hz1
          go_wp2_with (first | (go_at_call 59; refine (c_spec_l1In _ _ _ _ ).mono ?_; rintro e w' ⟨rfl, hb⟩; have hc := cellOf hb; have hf := frozOf hb; have hz := sizeOf hb; try simp at hz))
          exact RQ.mk rfl ⟨(by first | rfl | (simp [FS49_6]; done) | (simp [FS49_6, *]; done) | (simp [FS49_6, gotV]; done) | (simp [FS49_6, gotV]; omega)), fun h => absurd h (by decide)⟩ (by (repeat' (first | exact Below.refl _ _ | assumption | refine Below.setCell ?_ ?_ _ | refine Below.drew ?_ | refine Below.alloc ?_ ?_ _ | refine Below.trans ?_ (Below.mono (by assumption) ?_) | (simp; done) | (simp; omega) | omega)))
        | 11, _ =>
          injection ho with ho
          subst ho
          clear hl
          simp only [fillA, List.take, List.drop, put_none, Act.put, List.setIfInBounds_toArray, List.set_cons_zero, List.set_cons_succ, Nat.reduceAdd]
          have f10 := hf 10 (by decide) (by kernel_rfl)
          generalize vals 10 = v10 at *
          subst f10
          clear hf
          go_wp2_with (fail)
          exact RQ.mk rfl ⟨(by first | rfl | (simp [FS49_6]; done) | (simp [FS49_6, *]; done) | (simp [FS49_6, gotV]; done) | (simp [FS49_6, gotV]; omega)), fun h => absurd h (by decide)⟩ (Below.refl _ _)
      · intro vals w1 hb1 hf hd
        simp only [fillA, List.take, List.drop, put_none, Act.put, List.setIfInBounds_toArray, List.set_cons_zero, List.set_cons_succ, Nat.reduceAdd]
        clear hd
        have f0 := hf 0 (by decide)
        generalize vals 0 = v0 at *
        subst f0
        have f1 := hf 1 (by decide)
        generalize vals 1 = v1 at *
        subst f1
        have f2 := hf 2 (by decide)
        generalize vals 2 = v2 at *
        subst f2
        have f3 := hf 3 (by decide)
        generalize vals 3 = v3 at *
        subst f3
        have f4 := hf 4 (by decide)
        generalize vals 4 = v4 at *
        subst f4
        have f5 := hf 5 (by decide)
        generalize vals 5 = v5 at *
        subst f5
        have f6 := hf 6 (by decide)
        generalize vals 6 = v6 at *
        subst f6
        have f7 := hf 7 (by decide)
        generalize vals 7 = v7 at *
        subst f7
        have f8 := hf 8 (by decide)
        generalize vals 8 = v8 at *
        subst f8
        have f9 := hf 9 (by decide)
        generalize vals 9 = v9 at *
        subst f9
        have f10 := hf 10 (by decide)
        generalize vals 10 = v10 at *
        subst f10
        have f11 := hf 11 (by decide)
        generalize vals 11 = v11 at *
        subst f11
        clear hf
        have hc1 := cellOf hb1
        have hf1 := frozOf hb1
        have hz1 := sizeOf hb1
        try simp at hz1
        by_cases hg : inB x 0 (topB ps.length) = true
        · have HG : Hid (bitsOk ps.length x = true) := hg
          clear HM hpw
          simp only [show (topB ps.length + 1 - 1) = topB ps.length by omega, hg]
          go_wp2_with (fail)
          go_roundw
          case rel =>
            refine ⟨k + 1, by omega, by go_num, by rw [HS.out, HA.out, HG.out]; rfl, ?_, ?_, ?_, ?_, ?_, ?_, by (repeat' (first | exact Below.refl _ _ | assumption | refine Below.setCell ?_ ?_ _ | refine Below.drew ?_ | refine Below.alloc ?_ ?_ _ | refine Below.trans ?_ (Below.mono (by assumption) ?_) | (simp; done) | (simp; omega) | omega))⟩
            all_goals first | (simp [go_sem, ↓IntWalk.iteOmega, *]; done) | (simp [go_sem, ↓IntWalk.iteOmega, *]; omega) | omega
          case measure => simp [intOf]; omega
        · have hgf : inB x 0 (topB ps.length) = false := by simpa using hg
          have HV2 := hid (HM.out hgf)
          clear hg HM hpw
          simp only [show (topB ps.length + 1 - 1) = topB ps.length by omega, hgf]
          go_wp2_with (fail)
          go_ret
          exact ⟨ret_bool (by rw [HV2.out]), by (repeat' (first | exact Below.refl _ _ | assumption | refine Below.setCell ?_ ?_ _ | refine Below.drew ?_ | refine Below.alloc ?_ ?_ _ | refine Below.trans ?_ (Below.mono (by assumption) ?_) | (simp; done) | (simp; omega) | omega))⟩
    · obtain rfl : k = pl.length := by omega
      rw [List.take_length] at han
      have HV2 := hid (HV.out.trans han)
      clear han
      go_wp2_with (fail)
      go_ret
      exact ⟨ret_bool (by rw [HV2.out]), by (repeat' (first | exact Below.refl _ _ | assumption | refine Below.setCell ?_ ?_ _ | refine Below.drew ?_ | refine Below.alloc ?_ ?_ _ | refine Below.trans ?_ (Below.mono (by assumption) ?_) | (simp; done) | (simp; omega) | omega))⟩

end Go.Proofs.Ytpaclngjmdacjaa
namespace Go.Proofs.Ytpaclngjmdacjaa
set_option linter.unusedSimpArgs false
set_option linter.unusedVariables false
open Go.RowKit

set_option maxHeartbeats 2000000 in
theorem c_spec_l12Runs (C : Option Addr) (pl : List Int) (n capp : Nat) (hh y : Int) (q : Nat) (w : World) (hr : Rds cIn 1 w C pl) (hnl : pl.length = n) (hnr : pl.length ≤ 5) (hq : q ≤ 1) (hy : 0 ≤ y ∧ y ≤ 3) (hcase : (hh = -1 ∧ y = 0) ∨ (∃ k : Nat, hh = (k : Int) ∧ pl[k]? = some y)) :
    Calls Try.prog 76 #[.slice C n capp, .int .i64 hh, .int .i64 q] w fun e w' => e = .returned (.bool (bitB y q)) ∧ Below w.heap.size w w' := by
  subst hnl
  rcases hcase with ⟨rfl, rfl⟩ | ⟨k, rfl, hk⟩
  · have H := hid (show bitB 0 q = false by obtain rfl | rfl : q = 0 ∨ q = 1 := by omega
                                            all_goals decide)
    go_enter Try.func76, Try.ntmps76
    go_wp2_with (fail)
    go_ret
    exact ⟨ret_bool (by rw [H.out]), by (repeat' (first | exact Below.refl _ _ | assumption | refine Below.setCell ?_ ?_ _ | refine Below.drew ?_ | refine Below.alloc ?_ ?_ _ | refine Below.trans ?_ (Below.mono (by assumption) ?_) | (simp; done) | (simp; omega) | omega))⟩
  · obtain ⟨bx, ox, rfl, hbx, hcx⟩ := hr k y hk
    have hx0 := hcx 0 _ rfl
    simp only [Nat.add_zero, Nat.mul_one] at hx0
    have hlt : k < pl.length := by
      rcases Nat.lt_or_ge k pl.length with h | h
      · exact h
      · rw [List.getElem?_eq_none h] at hk; cases hk
    have hb := bits_and hy (q := q) hq
    clear hcx hr hk
    by_cases hbt : bitB y q = true
    · rw [if_pos hbt] at hb
      go_enter Try.func76, Try.ntmps76
      go_wp2_with (fail)
      go_ret
      exact ⟨ret_bool (by simp [hb, hbt]), by (repeat' (first | exact Below.refl _ _ | assumption | refine Below.setCell ?_ ?_ _ | refine Below.drew ?_ | refine Below.alloc ?_ ?_ _ | refine Below.trans ?_ (Below.mono (by assumption) ?_) | (simp; done) | (simp; omega) | omega))⟩
    · rw [if_neg hbt] at hb
      go_enter Try.func76, Try.ntmps76
      go_wp2_with (fail)
      go_ret
      exact ⟨ret_bool (by simp [hb, hbt]), by (repeat' (first | exact Below.refl _ _ | assumption | refine Below.setCell ?_ ?_ _ | refine Below.drew ?_ | refine Below.alloc ?_ ?_ _ | refine Below.trans ?_ (Below.mono (by assumption) ?_) | (simp; done) | (simp; omega) | omega))⟩

set_option maxRecDepth 100000 in
set_option maxHeartbeats 4000000 in
theorem c_spec_l12Out (l h v : Int) (A : Option Addr) (fs : List Int) (capf : Nat) (B : Option Addr) (ps : List (Int × Int × Int)) (capq : Nat) (C : Option Addr) (pl : List Int) (n capp : Nat) (k : Nat) (x : Int) (w : World) (hx : Rds cIn 1 w A fs) (hn : fs.length ≤ 9223372036854775807) (hy : Rds cPu 3 w B ps) (hm : ps.length ≤ 9223372036854775807) (hr : Rds cIn 1 w C pl) (hnl : pl.length = n) (hnr : pl.length ≤ 5) (hpu : ∀ k (hk : k < ps.length), puOk ps[k] = true) (hn2 : ps.length ≤ 2) (hxk : pl[k]? = some x) (hxb : 0 ≤ x ∧ x ≤ 3) :
    Calls Try.prog 50 #[.agg #[.int .i64 l, .int .i64 h, .int .i64 v, .slice A fs.length capf, .slice B ps.length capq], .slice C n capp, .int .i64 k] w fun e w' => e = .returned (.int .i64 (outTo ps x ps.length)) ∧ Below w.heap.size w w' := by
  subst hnl
  have HXK := hid hxk
  clear hxk
  go_enter Try.func50, Try.ntmps50
  go_wp2_with (fail)
  go_loopw [7, 8] (fun s i wr => ∃ q : Nat, q ≤ ps.length ∧ i = .int .i64 q ∧ s = .int .i64 (outTo ps x q) ∧ wr.cell? ⟨w.heap.size, 0, none⟩ = some (.int .i64 l) ∧ wr.cell? ⟨w.heap.size, 1, none⟩ = some (.int .i64 h) ∧ wr.cell? ⟨w.heap.size, 2, none⟩ = some (.int .i64 v) ∧ wr.cell? ⟨w.heap.size, 3, none⟩ = some (.slice A fs.length capf) ∧ wr.cell? ⟨w.heap.size, 4, none⟩ = some (.slice B ps.length capq) ∧ w.heap.size + 1 ≤ wr.heap.size ∧ Below w.heap.size w wr) (fun _ i _ => ps.length - (intOf i).toNat)
  case atStart =>
    refine ⟨0, Nat.zero_le _, rfl, rfl, ?_, ?_, ?_, ?_, ?_, ?_, by (repeat' (first | exact Below.refl _ _ | assumption | refine Below.setCell ?_ ?_ _ | refine Below.drew ?_ | refine Below.alloc ?_ ?_ _ | refine Below.trans ?_ (Below.mono (by assumption) ?_) | (simp; done) | (simp; omega) | omega))⟩
    all_goals first | (simp [go_sem, ↓IntWalk.iteOmega, *]; done) | (simp at *; omega)
  case round =>
    obtain ⟨q, hq, rfl, rfl, hp0, hp1, hp2, hp3, hp4, hzz, hbr⟩ := hrel
    have hc := cellOf hbr
    have hf := frozOf hbr
    have hz := sizeOf hbr
    have hp0' : far _ _ _ = _ := hp0
    have hp1' : far _ _ _ = _ := hp1
    have hp2' : far _ _ _ = _ := hp2
    have hp3' : far _ _ _ = _ := hp3
    have hp4' : far _ _ _ = _ := hp4
    have hob := outTo_bd hpu x q hq
    by_cases hlt : q < ps.length
    · obtain ⟨bp, op_, rfl, hbp, hcp⟩ := hy q ps[q] (List.getElem?_eq_getElem hlt)
      have hg0 := hcp 0 _ rfl
      simp only [Nat.add_zero] at hg0
      have hgb := puOk_bd (hpu q hlt)
      have HO1 := hid (outTo_succ x q hlt)
      have hq1 : q ≤ 1 := by omega
      clear hcp hy
      generalize ps[q] = g at *
      generalize outTo ps x q = ot at *
      by_cases h1 : bitB x q = true
      · rw [if_pos h1] at HO1
        go_wp2_with (first | (go_at_call 76; refine (c_spec_l12Runs _ pl _ _ (k : Int) x q _ (by first | assumption | exact Rds.below hr (by (repeat' (first | exact Below.refl _ _ | assumption | refine Below.setCell ?_ ?_ _ | refine Below.drew ?_ | refine Below.alloc ?_ ?_ _ | refine Below.trans ?_ (Below.mono (by assumption) ?_) | (simp; done) | (simp; omega) | omega)))) rfl (by omega) hq1 hxb (.inr ⟨k, rfl, HXK.out⟩)).mono ?_; rintro e w' ⟨rfl, hb⟩; have hc := cellOf hb; have hf := frozOf hb; have hz := sizeOf hb; try simp at hz))
        go_roundw
        case rel =>
          refine ⟨q + 1, by omega, by go_num, by rw [HO1.out], ?_, ?_, ?_, ?_, ?_, ?_, by (repeat' (first | exact Below.refl _ _ | assumption | refine Below.setCell ?_ ?_ _ | refine Below.drew ?_ | refine Below.alloc ?_ ?_ _ | refine Below.trans ?_ (Below.mono (by assumption) ?_) | (simp; done) | (simp; omega) | omega))⟩
          all_goals first | (simp [go_sem, ↓IntWalk.iteOmega, *]; done) | (simp [go_sem, ↓IntWalk.iteOmega, *]; omega) | omega
        case measure => simp [intOf]; omega
      · have h1f : bitB x q = false := by simpa using h1
        rw [if_neg h1] at HO1
        clear h1
        go_wp2_with (first | (go_at_call 76; refine (c_spec_l12Runs _ pl _ _ (k : Int) x q _ (by first | assumption | exact Rds.below hr (by (repeat' (first | exact Below.refl _ _ | assumption | refine Below.setCell ?_ ?_ _ | refine Below.drew ?_ | refine Below.alloc ?_ ?_ _ | refine Below.trans ?_ (Below.mono (by assumption) ?_) | (simp; done) | (simp; omega) | omega)))) rfl (by omega) hq1 hxb (.inr ⟨k, rfl, HXK.out⟩)).mono ?_; rintro e w' ⟨rfl, hb⟩; have hc := cellOf hb; have hf := frozOf hb; have hz := sizeOf hb; try simp at hz))
        go_roundw
        case rel =>
          refine ⟨q + 1, by omega, by go_num, by rw [HO1.out]; simp, ?_, ?_, ?_, ?_, ?_, ?_, by (repeat' (first | exact Below.refl _ _ | assumption | refine Below.setCell ?_ ?_ _ | refine Below.drew ?_ | refine Below.alloc ?_ ?_ _ | refine Below.trans ?_ (Below.mono (by assumption) ?_) | (simp; done) | (simp; omega) | omega))⟩
          all_goals first | (simp [go_sem, ↓IntWalk.iteOmega, *]; done) | (simp [go_sem, ↓IntWalk.iteOmega, *]; omega) | omega
        case measure => simp [intOf]; omega
    · obtain rfl : q = ps.length := by omega
      go_wp2_with (fail)
      go_ret
      exact ⟨rfl, by (repeat' (first | exact Below.refl _ _ | assumption | refine Below.setCell ?_ ?_ _ | refine Below.drew ?_ | refine Below.alloc ?_ ?_ _ | refine Below.trans ?_ (Below.mono (by assumption) ?_) | (simp; done) | (simp; omega) | omega))⟩

end Go.Proofs.Ytpaclngjmdacjaa
namespace Go.Proofs.Ytpaclngjmdacjaa
set_option linter.unusedSimpArgs false
set_option linter.unusedVariables false
open Go.RowKit

def FS66_6 (l h vv : Int) (bf of_ nf capf : Nat) (B : Option Addr) (np capq : Nat) (lv f : Int) (k : Nat) (ps : List (Int × Int × Int)) (x : Int) (C : Option Addr) (n0 capp : Nat) (w W0 : World) (iq : Nat) (v : Value) (w1 : World) : Prop := match iq with
  | 0 => v = .int .i64 (lv)
  | 1 => v = .pointer (some ⟨w.heap.size, 3, none⟩)
  | 2 => v = .slice (some ⟨bf, of_, none⟩) nf capf
  | 3 => v = .int .i64 (k)
  | 4 => v = .pointer (some ⟨bf, of_ + k, none⟩)
  | 5 => v = .int .i64 (f)
  | 6 => v = .int .i64 (lv + f)
  | 7 => v = .agg #[.int .i64 (l), .int .i64 (h), .int .i64 (vv), .slice (some ⟨bf, of_, none⟩) nf capf, .slice B np capq]
  | 8 => v = .slice C n0 capp
  | 9 => v = .int .i64 (k)
  | 10 => v = .int .i64 (outTo ps x np)
  | 11 => v = .int .i64 ((lv + f) - (outTo ps x np))
  | _ => True

set_option maxRecDepth 100000 in
set_option maxHeartbeats 4000000 in
theorem c_spec_l12Levels (l h v : Int) (A : Option Addr) (fs : List Int) (capf : Nat) (B : Option Addr) (ps : List (Int × Int × Int)) (capq : Nat) (C : Option Addr) (pl : List Int) (capp : Nat) (w : World) (hx : Rds cIn 1 w A fs) (hn : fs.length ≤ 9223372036854775807) (hy : Rds cPu 3 w B ps) (hm : ps.length ≤ 9223372036854775807) (hr : Rds cIn 1 w C pl) (hnr : pl.length ≤ 5) (hv : 0 ≤ v ∧ v ≤ 500) (hfl : ∀ k (hk : k < fs.length), -50 ≤ fs[k] ∧ fs[k] ≤ 50) (hpu : ∀ k (hk : k < ps.length), puOk ps[k] = true) (hn2 : ps.length ≤ 2) (hl1 : pl.length ≤ fs.length) (hbt : ∀ k (hk : k < pl.length), 0 ≤ pl[k] ∧ pl[k] ≤ 3) :
    Calls Try.prog 66 #[.agg #[.int .i64 l, .int .i64 h, .int .i64 v, .slice A fs.length capf, .slice B ps.length capq], .slice C pl.length capp] w fun e w' => ∃ A' cap', e = .returned (.slice A' pl.length cap') ∧ FreshA cIn 1 3 w.heap.size w' A' cap' (levsTo v fs pl ps pl.length) ∧ Below w.heap.size w w' := by
  obtain ⟨i0, hI0, hI1, hI2, hI3⟩ := info_parts info_In
  go_enter Try.func66, Try.ntmps66
  go_wp2_with (fail)
  go_loopw [5, 6, 7] (fun o lev i wr => ∃ (k : Nat) (A' : Option Addr) (cp : Nat), k ≤ pl.length ∧ i = .int .i64 k ∧ o = .slice A' k cp ∧ lev = .int .i64 (levTo v fs pl ps k) ∧ FreshA cIn 1 3 (w.heap.size + 1) wr A' cp (levsTo v fs pl ps k) ∧ wr.cell? ⟨w.heap.size, 0, none⟩ = some (.int .i64 l) ∧ wr.cell? ⟨w.heap.size, 1, none⟩ = some (.int .i64 h) ∧ wr.cell? ⟨w.heap.size, 2, none⟩ = some (.int .i64 v) ∧ wr.cell? ⟨w.heap.size, 3, none⟩ = some (.slice A fs.length capf) ∧ wr.cell? ⟨w.heap.size, 4, none⟩ = some (.slice B ps.length capq) ∧ w.heap.size + 1 ≤ wr.heap.size ∧ Below w.heap.size w wr) (fun _ _ i _ => pl.length - (intOf i).toNat)
  case atStart =>
    refine ⟨0, some ⟨w.heap.size + 1, 0, none⟩, 0, Nat.zero_le _, rfl, by simp, rfl, FreshA.emp2 (by (repeat' (first | exact Below.refl _ _ | assumption | refine Below.setCell ?_ ?_ _ | refine Below.drew ?_ | refine Below.alloc ?_ ?_ _ | refine Below.trans ?_ (Below.mono (by assumption) ?_) | (simp; done) | (simp; omega) | omega))), ?_, ?_, ?_, ?_, ?_, ?_, by (repeat' (first | exact Below.refl _ _ | assumption | refine Below.setCell ?_ ?_ _ | refine Below.drew ?_ | refine Below.alloc ?_ ?_ _ | refine Below.trans ?_ (Below.mono (by assumption) ?_) | (simp; done) | (simp; omega) | omega))⟩
    all_goals first | (simp [go_sem, ↓IntWalk.iteOmega, *]; done) | (simp at *; omega)
  case round =>
    obtain ⟨k, A', cp, hk, rfl, rfl, rfl, hF, hp0, hp1, hp2, hp3, hp4, hzz, hbr⟩ := hrel
    have hlo := hF.lo
    have hhi := hF.hi
    have hc := cellOf hbr
    have hf := frozOf hbr
    have hz := sizeOf hbr
    by_cases hlt : k < pl.length
    rotate_left
    · obtain rfl : k = pl.length := by omega
      go_wp2_with (fail)
      go_ret
      exact ⟨A', cp, rfl, hF.mono (by omega), by (repeat' (first | exact Below.refl _ _ | assumption | refine Below.setCell ?_ ?_ _ | refine Below.drew ?_ | refine Below.alloc ?_ ?_ _ | refine Below.trans ?_ (Below.mono (by assumption) ?_) | (simp; done) | (simp; omega) | omega))⟩
    have hltf : k < fs.length := by omega
    obtain ⟨bf, of_, rfl, hbf, hcf⟩ := hx k fs[k] (List.getElem?_eq_getElem hltf)
    have hf0 := hcf 0 _ rfl
    simp only [Nat.add_zero, Nat.mul_one] at hf0
    have hp0' : far _ _ _ = _ := hp0
    have hp1' : far _ _ _ = _ := hp1
    have hp2' : far _ _ _ = _ := hp2
    have hp3' : far _ _ _ = _ := hp3
    have hp4' : far _ _ _ = _ := hp4
    have hfb := hfl k hltf
    have hlb := levTo_bd hv hfl hpu hn2 hl1 k hk
    have hob := outTo_bd hpu pl[k] ps.length (Nat.le_refl _)
    have hxb := hbt k hlt
    have HXK := hid (List.getElem?_eq_getElem hlt)
    have HL1 := hid (levTo_succ (v := v) (ps := ps) k hlt hltf)
    have HLS := hid (levsTo_succ (v := v) (fs := fs) (pl := pl) (ps := ps) k)
    have HLL := hid (levsTo_len (v := v) (fs := fs) (pl := pl) (ps := ps) k)
    have HF := hid hF
    have HFL := hid hfl
    clear hcf hF hfl
    obtain ⟨x, hxk⟩ : ∃ x, x = pl[k] := ⟨_, rfl⟩
    obtain ⟨f, hfk⟩ : ∃ f, f = fs[k] := ⟨_, rfl⟩
    simp only [← hxk] at hxb HXK HL1 hob
    simp only [← hfk] at hf0 hfb HL1
    clear hxk hfk
    have HLS2 := hid (HLS.out.trans (by rw [HL1.out]))
    generalize levTo v fs pl ps k = lv at *
    go_wp2_with (fail)
    refine wp_region_w (n := 12) [] [] (FS66_6 l h v bf of_ fs.length capf B ps.length capq lv f k ps x C pl.length capp w) rfl (by kernel_rfl) (fun _ _ d _ _ h => by cases d <;> exact h) ?_ ?_ ?_ ?_ ?_ ?_
    · intro iq
      match iq with
      | 0 | 1 | 2 | 3 | 4 | 5 | 6 | 7 | 8 | 9 | 10 | 11 => exact Stable.const _
      | n + 12 => exact Stable.const _
    · intro iq hi
      exact absurd hi (by simp)
    · intro iq hi
      exact absurd hi (by simp)
    · intro iq o hi hl ho vals w1 hb1 hf
      exact absurd hl (by simp)
    · intro iq o hi hl ho vals w1 hb1 hf
      match iq, hi with
      | 0, _ =>
        injection ho with ho
        subst ho
        clear hl
        simp only [fillA, List.take, List.drop, put_none, Act.put, List.setIfInBounds_toArray, List.set_cons_zero, List.set_cons_succ, Nat.reduceAdd]
        clear hf
        go_wp2_with (fail)
        exact RQ.mk rfl ⟨(by first | rfl | (simp [FS66_6]; done) | (simp [FS66_6, *]; done) | (simp [FS66_6, gotV]; done) | (simp [FS66_6, gotV]; omega)), fun h => absurd h (by decide)⟩ (Below.refl _ _)
      | 1, _ =>
        injection ho with ho
        subst ho
        clear hl
        simp only [fillA, List.take, List.drop, put_none, Act.put, List.setIfInBounds_toArray, List.set_cons_zero, List.set_cons_succ, Nat.reduceAdd]
        clear hf
        go_wp2_with (fail)
        exact RQ.mk rfl ⟨(by first | rfl | (simp [FS66_6]; done) | (simp [FS66_6, *]; done) | (simp [FS66_6, gotV]; done) | (simp [FS66_6, gotV]; omega)), fun h => absurd h (by decide)⟩ (Below.refl _ _)
      | 2, _ =>
        injection ho with ho
        subst ho
        clear hl
        simp only [fillA, List.take, List.drop, put_none, Act.put, List.setIfInBounds_toArray, List.set_cons_zero, List.set_cons_succ, Nat.reduceAdd]
        have f1 := hf 1 (by decide) (by kernel_rfl)
        generalize vals 1 = v1 at *
        subst f1
        clear hf
        have hc1 := cellOf hb1
        have hf1 := frozOf hb1
        have hz1 := sizeOf hb1
        try simp at hz1
        go_wp2_with (fail)
        exact RQ.mk rfl ⟨(by first | rfl | (simp [FS66_6]; done) | (simp [FS66_6, *]; done) | (simp [FS66_6, gotV]; done) | (simp [FS66_6, gotV]; omega)), fun h => absurd h (by decide)⟩ (Below.refl _ _)
      | 3, _ =>
        injection ho with ho
        subst ho
        clear hl
        simp only [fillA, List.take, List.drop, put_none, Act.put, List.setIfInBounds_toArray, List.set_cons_zero, List.set_cons_succ, Nat.reduceAdd]
        clear hf
        go_wp2_with (fail)
        exact RQ.mk rfl ⟨(by first | rfl | (simp [FS66_6]; done) | (simp [FS66_6, *]; done) | (simp [FS66_6, gotV]; done) | (simp [FS66_6, gotV]; omega)), fun h => absurd h (by decide)⟩ (Below.refl _ _)
      | 4, _ =>
        injection ho with ho
        subst ho
        clear hl
        simp only [fillA, List.take, List.drop, put_none, Act.put, List.setIfInBounds_toArray, List.set_cons_zero, List.set_cons_succ, Nat.reduceAdd]
        have f2 := hf 2 (by decide) (by kernel_rfl)
        generalize vals 2 = v2 at *
        subst f2
        have f3 := hf 3 (by decide) (by kernel_rfl)
        generalize vals 3 = v3 at *
        subst f3
        clear hf
        go_wp2_with (fail)
        exact RQ.mk rfl ⟨(by first | rfl | (simp [FS66_6]; done) | (simp [FS66_6, *]; done) | (simp [FS66_6, gotV]; done) | (simp [FS66_6, gotV]; omega)), fun h => absurd h (by decide)⟩ (Below.refl _ _)
      | 5, _ =>
        injection ho with ho
        subst ho
        clear hl
        simp only [fillA, List.take, List.drop, put_none, Act.put, List.setIfInBounds_toArray, List.set_cons_zero, List.set_cons_succ, Nat.reduceAdd]
        have f4 := hf 4 (by decide) (by kernel_rfl)
        generalize vals 4 = v4 at *
        subst f4
        clear hf
        have hc1 := cellOf hb1
        have hf1 := frozOf hb1
        have hz1 := sizeOf hb1
        try simp at hz1
        go_wp2_with (fail)
        exact RQ.mk rfl ⟨(by first | rfl | (simp [FS66_6]; done) | (simp [FS66_6, *]; done) | (simp [FS66_6, gotV]; done) | (simp [FS66_6, gotV]; omega)), fun h => absurd h (by decide)⟩ (Below.refl _ _)
      | 6, _ =>
        injection ho with ho
        subst ho
        clear hl
        simp only [fillA, List.take, List.drop, put_none, Act.put, List.setIfInBounds_toArray, List.set_cons_zero, List.set_cons_succ, Nat.reduceAdd]
        have f0 := hf 0 (by decide) (by kernel_rfl)
        generalize vals 0 = v0 at *
        subst f0
        have f5 := hf 5 (by decide) (by kernel_rfl)
        generalize vals 5 = v5 at *
        subst f5
        clear hf
        go_wp2_with (fail)
        exact RQ.mk rfl ⟨(by first | rfl | (simp [FS66_6]; done) | (simp [FS66_6, *]; done) | (simp [FS66_6, gotV]; done) | (simp [FS66_6, gotV]; omega)), fun h => absurd h (by decide)⟩ (Below.refl _ _)
      | 7, _ =>
        injection ho with ho
        subst ho
        clear hl
        simp only [fillA, List.take, List.drop, put_none, Act.put, List.setIfInBounds_toArray, List.set_cons_zero, List.set_cons_succ, Nat.reduceAdd]
        clear hf
        have hc1 := cellOf hb1
        have hf1 := frozOf hb1
        have hz1 := sizeOf hb1
        try simp at hz1
        go_wp2_with (fail)
        exact RQ.mk rfl ⟨(by first | rfl | (simp [FS66_6]; done) | (simp [FS66_6, *]; done) | (simp [FS66_6, gotV]; done) | (simp [FS66_6, gotV]; omega)), fun h => absurd h (by decide)⟩ (Below.refl _ _)
      | 8, _ =>
        injection ho with ho
        subst ho
        clear hl
        simp only [fillA, List.take, List.drop, put_none, Act.put, List.setIfInBounds_toArray, List.set_cons_zero, List.set_cons_succ, Nat.reduceAdd]
        clear hf
        go_wp2_with (fail)
        exact RQ.mk rfl ⟨(by first | rfl | (simp [FS66_6]; done) | (simp [FS66_6, *]; done) | (simp [FS66_6, gotV]; done) | (simp [FS66_6, gotV]; omega)), fun h => absurd h (by decide)⟩ (Below.refl _ _)
      | 9, _ =>
        injection ho with ho
        subst ho
        clear hl
        simp only [fillA, List.take, List.drop, put_none, Act.put, List.setIfInBounds_toArray, List.set_cons_zero, List.set_cons_succ, Nat.reduceAdd]
        clear hf
        go_wp2_with (fail)
        exact RQ.mk rfl ⟨(by first | rfl | (simp [FS66_6]; done) | (simp [FS66_6, *]; done) | (simp [FS66_6, gotV]; done) | (simp [FS66_6, gotV]; omega)), fun h => absurd h (by decide)⟩ (Below.refl _ _)
      | 10, _ =>
        injection ho with ho
        subst ho
        clear hl
        simp only [fillA, List.take, List.drop, put_none, Act.put, List.setIfInBounds_toArray, List.set_cons_zero, List.set_cons_succ, Nat.reduceAdd]
        have f7 := hf 7 (by decide) (by kernel_rfl)
        generalize vals 7 = v7 at *
        subst f7
        have f8 := hf 8 (by decide) (by kernel_rfl)
        generalize vals 8 = v8 at *
        subst f8
        have f9 := hf 9 (by decide) (by kernel_rfl)
        generalize vals 9 = v9 at *
        subst f9
        clear hf
        have hc1 := cellOf hb1
        have hf1 := frozOf hb1
        have hz1 := sizeOf hb1
        try simp at hz1
        go_wp2_with (first | (first | (go_at_call 50; refine (c_spec_l12Out _ _ _ _ fs _ _ ps _ _ pl _ _ k x _ (by first | assumption | exact Rds.below hx (by (repeat' (first | exact Below.refl _ _ | assumption | refine Below.setCell ?_ ?_ _ | refine Below.drew ?_ | refine Below.alloc ?_ ?_ _ | refine Below.trans ?_ (Below.mono (by assumption) ?_) | (simp; done) | (simp; omega) | omega)))) (by omega) (by first | assumption | exact Rds.below hy (by (repeat' (first | exact Below.refl _ _ | assumption | refine Below.setCell ?_ ?_ _ | refine Below.drew ?_ | refine Below.alloc ?_ ?_ _ | refine Below.trans ?_ (Below.mono (by assumption) ?_) | (simp; done) | (simp; omega) | omega)))) (by omega) (by first | assumption | exact Rds.below hr (by (repeat' (first | exact Below.refl _ _ | assumption | refine Below.setCell ?_ ?_ _ | refine Below.drew ?_ | refine Below.alloc ?_ ?_ _ | refine Below.trans ?_ (Below.mono (by assumption) ?_) | (simp; done) | (simp; omega) | omega)))) rfl (by omega) hpu (by omega) HXK.out hxb).mono ?_; rintro e w' ⟨rfl, hb⟩; have hc := cellOf hb; have hf := frozOf hb; have hz := sizeOf hb; try simp at hz)))
        exact RQ.mk rfl ⟨(by first | rfl | (simp [FS66_6]; done) | (simp [FS66_6, *]; done) | (simp [FS66_6, gotV]; done) | (simp [FS66_6, gotV]; omega)), fun h => absurd h (by decide)⟩ (by (repeat' (first | exact Below.refl _ _ | assumption | refine Below.setCell ?_ ?_ _ | refine Below.drew ?_ | refine Below.alloc ?_ ?_ _ | refine Below.trans ?_ (Below.mono (by assumption) ?_) | (simp; done) | (simp; omega) | omega)))
      | 11, _ =>
        injection ho with ho
        subst ho
        clear hl
        simp only [fillA, List.take, List.drop, put_none, Act.put, List.setIfInBounds_toArray, List.set_cons_zero, List.set_cons_succ, Nat.reduceAdd]
        have f6 := hf 6 (by decide) (by kernel_rfl)
        generalize vals 6 = v6 at *
        subst f6
        have f10 := hf 10 (by decide) (by kernel_rfl)
        generalize vals 10 = v10 at *
        subst f10
        clear hf
        go_wp2_with (fail)
        exact RQ.mk rfl ⟨(by first | rfl | (simp [FS66_6]; done) | (simp [FS66_6, *]; done) | (simp [FS66_6, gotV]; done) | (simp [FS66_6, gotV]; omega)), fun h => absurd h (by decide)⟩ (Below.refl _ _)
    · intro vals w1 hb1 hf hd
      simp only [fillA, List.take, List.drop, put_none, Act.put, List.setIfInBounds_toArray, List.set_cons_zero, List.set_cons_succ, Nat.reduceAdd]
      clear hd
      have f0 := hf 0 (by decide)
      generalize vals 0 = v0 at *
      subst f0
      have f1 := hf 1 (by decide)
      generalize vals 1 = v1 at *
      subst f1
      have f2 := hf 2 (by decide)
      generalize vals 2 = v2 at *
      subst f2
      have f3 := hf 3 (by decide)
      generalize vals 3 = v3 at *
      subst f3
      have f4 := hf 4 (by decide)
      generalize vals 4 = v4 at *
      subst f4
      have f5 := hf 5 (by decide)
      generalize vals 5 = v5 at *
      subst f5
      have f6 := hf 6 (by decide)
      generalize vals 6 = v6 at *
      subst f6
      have f7 := hf 7 (by decide)
      generalize vals 7 = v7 at *
      subst f7
      have f8 := hf 8 (by decide)
      generalize vals 8 = v8 at *
      subst f8
      have f9 := hf 9 (by decide)
      generalize vals 9 = v9 at *
      subst f9
      have f10 := hf 10 (by decide)
      generalize vals 10 = v10 at *
      subst f10
      have f11 := hf 11 (by decide)
      generalize vals 11 = v11 at *
      subst f11
      clear hf
      have hc1 := cellOf hb1
      have hf1 := frozOf hb1
      have hz1 := sizeOf hb1
      try simp at hz1
      go_wp2_with (at_builtin; refine wpList_push rfl (.tmp 29) (.tmp 31) 22 rfl 3 i0 _ 1 8 Try.underlying22 hI0 hI1 hI2 hI3 rfl (by decide) (fun _ => rfl) one_In ((w.heap.size + 1)) A' k cp ((levsTo v fs pl ps k)) HLL.out rfl (HF.out.below (by (repeat' (first | exact Below.refl _ _ | assumption | refine Below.setCell ?_ ?_ _ | refine Below.drew ?_ | refine Below.alloc ?_ ?_ _ | refine Below.trans ?_ (Below.mono (by assumption) ?_) | (simp; done) | (simp; omega) | omega)))) ((lv + f - outTo ps x ps.length)) _ 1 rfl ?_ ?_ ?_ ?_ ?_; (refine news_In _ _ _ ?_ <;> simp [go_sem, ↓IntWalk.iteOmega]); (unfold maxLen; omega); omega; (simp; omega); intro A3 cp3 w3 hF3 hg3 hat3; have hc3 := cellGrown hg3 hlo hhi; have hf3 := frozGrown hg3 hlo hhi; have hs3 := hg3.size; (try simp at hs3); have hb3 := below_of_grown (B := w.heap.size) hg3 (hlo.mono (by omega)) (by simp; omega))
      go_roundw
      case rel =>
        refine ⟨k + 1, A3, cp3, by omega, by go_num, rfl, by rw [HL1.out], by rw [HLS2.out]; exact hF3, ?_, ?_, ?_, ?_, ?_, ?_, by (repeat' (first | exact Below.refl _ _ | assumption | refine Below.setCell ?_ ?_ _ | refine Below.drew ?_ | refine Below.alloc ?_ ?_ _ | refine Below.trans ?_ (Below.mono (by assumption) ?_) | (simp; done) | (simp; omega) | omega))⟩
        all_goals first | (simp [go_sem, ↓IntWalk.iteOmega, *]; done) | (simp [go_sem, ↓IntWalk.iteOmega, *]; omega) | omega
      case measure => simp [intOf]; omega

set_option maxRecDepth 100000 in
set_option maxHeartbeats 4000000 in
theorem c_spec_LevelsWith (l h v : Int) (A : Option Addr) (fs : List Int) (capf : Nat) (B : Option Addr) (ps : List (Int × Int × Int)) (capq : Nat) (C : Option Addr) (pl : List Int) (capp : Nat) (w : World) (hx : Rds cIn 1 w A fs) (hn : fs.length ≤ 9223372036854775807) (hy : Rds cPu 3 w B ps) (hm : ps.length ≤ 9223372036854775807) (hr : Rds cIn 1 w C pl) (hnr : pl.length ≤ 9223372036854775807) :
    Calls Try.prog 32 #[.agg #[.int .i64 l, .int .i64 h, .int .i64 v, .slice A fs.length capf, .slice B ps.length capq], .slice C pl.length capp] w fun e w' => ∃ A' cap', e = .returned (.tuple #[.slice A' (levV l h v fs ps pl).1.length cap', .bool (levV l h v fs ps pl).2]) ∧ FreshA cIn 1 3 w.heap.size w' A' cap' (levV l h v fs ps pl).1 ∧ Below w.heap.size w w' := by
  skip
  by_cases hs0 : planB l h v fs ps pl = true
  rotate_left
  · have hn0 : planB l h v fs ps pl = false := Bool.eq_false_iff.2 hs0
    have HV := hid (show levV l h v fs ps pl = ([], false) by simp [levV, hn0])
    clear hs0
    go_enter Try.func32, Try.ntmps32
    go_wp2_with (first | (go_at_call 49; refine (c_spec_l12Plan _ _ _ _ _ _ _ _ _ _ _ _ _ (by first | assumption | exact Rds.below hx (by (repeat' (first | exact Below.refl _ _ | assumption | refine Below.setCell ?_ ?_ _ | refine Below.drew ?_ | refine Below.alloc ?_ ?_ _ | refine Below.trans ?_ (Below.mono (by assumption) ?_) | (simp; done) | (simp; omega) | omega)))) (by omega) (by first | assumption | exact Rds.below hy (by (repeat' (first | exact Below.refl _ _ | assumption | refine Below.setCell ?_ ?_ _ | refine Below.drew ?_ | refine Below.alloc ?_ ?_ _ | refine Below.trans ?_ (Below.mono (by assumption) ?_) | (simp; done) | (simp; omega) | omega)))) (by omega) (by first | assumption | exact Rds.below hr (by (repeat' (first | exact Below.refl _ _ | assumption | refine Below.setCell ?_ ?_ _ | refine Below.drew ?_ | refine Below.alloc ?_ ?_ _ | refine Below.trans ?_ (Below.mono (by assumption) ?_) | (simp; done) | (simp; omega) | omega)))) (by omega)).mono ?_; rintro e w' ⟨rfl, hb⟩; have hc := cellOf hb; have hf := frozOf hb; have hz := sizeOf hb; try simp at hz))
    go_ret2
    simp only [HV.out]
    exact ⟨_, _, rfl, FreshA.new (by first | omega | (simp at *; omega)), by (repeat' (first | exact Below.refl _ _ | assumption | refine Below.setCell ?_ ?_ _ | refine Below.drew ?_ | refine Below.alloc ?_ ?_ _ | refine Below.trans ?_ (Below.mono (by assumption) ?_) | (simp; done) | (simp; omega) | omega))⟩
  obtain ⟨hv, hn2, hl1, hnr5, hfl, hpu, hbt⟩ := planB_facts hs0
  have HV := hid (show levV l h v fs ps pl = (levsTo v fs pl ps pl.length, true) by simp [levV, hs0])
  have HLL := hid (levsTo_len (v := v) (fs := fs) (pl := pl) (ps := ps) pl.length)
  go_enter Try.func32, Try.ntmps32
  go_wp2_with (first | (first | (go_at_call 49; refine (c_spec_l12Plan _ _ _ _ _ _ _ _ _ _ _ _ _ (by first | assumption | exact Rds.below hx (by (repeat' (first | exact Below.refl _ _ | assumption | refine Below.setCell ?_ ?_ _ | refine Below.drew ?_ | refine Below.alloc ?_ ?_ _ | refine Below.trans ?_ (Below.mono (by assumption) ?_) | (simp; done) | (simp; omega) | omega)))) (by omega) (by first | assumption | exact Rds.below hy (by (repeat' (first | exact Below.refl _ _ | assumption | refine Below.setCell ?_ ?_ _ | refine Below.drew ?_ | refine Below.alloc ?_ ?_ _ | refine Below.trans ?_ (Below.mono (by assumption) ?_) | (simp; done) | (simp; omega) | omega)))) (by omega) (by first | assumption | exact Rds.below hr (by (repeat' (first | exact Below.refl _ _ | assumption | refine Below.setCell ?_ ?_ _ | refine Below.drew ?_ | refine Below.alloc ?_ ?_ _ | refine Below.trans ?_ (Below.mono (by assumption) ?_) | (simp; done) | (simp; omega) | omega)))) (by omega)).mono ?_; rintro e w' ⟨rfl, hb⟩; have hc := cellOf hb; have hf := frozOf hb; have hz := sizeOf hb; try simp at hz)) | (go_at_call 66; refine (c_spec_l12Levels _ _ _ _ fs _ _ ps _ _ pl _ _ (by first | assumption | exact Rds.below hx (by (repeat' (first | exact Below.refl _ _ | assumption | refine Below.setCell ?_ ?_ _ | refine Below.drew ?_ | refine Below.alloc ?_ ?_ _ | refine Below.trans ?_ (Below.mono (by assumption) ?_) | (simp; done) | (simp; omega) | omega)))) (by omega) (by first | assumption | exact Rds.below hy (by (repeat' (first | exact Below.refl _ _ | assumption | refine Below.setCell ?_ ?_ _ | refine Below.drew ?_ | refine Below.alloc ?_ ?_ _ | refine Below.trans ?_ (Below.mono (by assumption) ?_) | (simp; done) | (simp; omega) | omega)))) (by omega) (by first | assumption | exact Rds.below hr (by (repeat' (first | exact Below.refl _ _ | assumption | refine Below.setCell ?_ ?_ _ | refine Below.drew ?_ | refine Below.alloc ?_ ?_ _ | refine Below.trans ?_ (Below.mono (by assumption) ?_) | (simp; done) | (simp; omega) | omega)))) (by omega) (by omega) hfl hpu (by omega) (by omega) hbt).mono ?_; rintro e w' ⟨A9, c9, rfl, hF9, hb⟩; have hc := cellOf hb; have hf := frozOf hb; have hz := sizeOf hb; try simp at hz))
  go_ret2
  simp only [HV.out]
  exact ⟨A9, c9, by first | (rw [HLL.out]; done) | (rw [HLL.out]; rfl), hF9.mono (by first | omega | (simp; done) | (simp; omega) | (simp at *; omega)), by (repeat' (first | exact Below.refl _ _ | assumption | refine Below.setCell ?_ ?_ _ | refine Below.drew ?_ | refine Below.alloc ?_ ?_ _ | refine Below.trans ?_ (Below.mono (by assumption) ?_) | (simp; done) | (simp; omega) | omega))⟩

end Go.Proofs.Ytpaclngjmdacjaa
namespace Go.Proofs.Ytpaclngjmdacjaa
set_option linter.unusedSimpArgs false
set_option linter.unusedVariables false
open Go.RowKit

def FS56_5 (l h vv : Int) (A : Option Addr) (nf capf : Nat) (B : Option Addr) (np capq : Nat) (x : Int) (bx ox k n0 c9 : Nat) (w W0 : World) (iq : Nat) (v : Value) (w1 : World) : Prop := match iq with
  | 0 => v = .slice (some ⟨bx, ox, none⟩) n0 c9
  | 1 => v = .int .i64 (k)
  | 2 => v = .pointer (some ⟨bx, ox + k, none⟩)
  | 3 => v = .int .i64 (x)
  | 4 => v = .pointer (some ⟨w.heap.size, 0, none⟩)
  | 5 => v = .int .i64 (l)
  | 6 => v = .pointer (some ⟨w.heap.size, 1, none⟩)
  | 7 => v = .int .i64 (h)
  | 8 => v = .bool (inB (x) (l) (h))
  | 9 => v = .bool (!(inB (x) (l) (h)))
  | _ => True

set_option maxRecDepth 100000 in
set_option maxHeartbeats 4000000 in
theorem c_spec_l12Unsafe (l h v : Int) (A : Option Addr) (fs : List Int) (capf : Nat) (B : Option Addr) (ps : List (Int × Int × Int)) (capq : Nat) (C : Option Addr) (pl : List Int) (capp : Nat) (w : World) (hx : Rds cIn 1 w A fs) (hn : fs.length ≤ 9223372036854775807) (hy : Rds cPu 3 w B ps) (hm : ps.length ≤ 9223372036854775807) (hr : Rds cIn 1 w C pl) (hnr : pl.length ≤ 5) (hv : 0 ≤ v ∧ v ≤ 500) (hfl : ∀ k (hk : k < fs.length), -50 ≤ fs[k] ∧ fs[k] ≤ 50) (hpu : ∀ k (hk : k < ps.length), puOk ps[k] = true) (hn2 : ps.length ≤ 2) (hl1 : pl.length ≤ fs.length) (hbt : ∀ k (hk : k < pl.length), 0 ≤ pl[k] ∧ pl[k] ≤ 3) :
    Calls Try.prog 56 #[.agg #[.int .i64 l, .int .i64 h, .int .i64 v, .slice A fs.length capf, .slice B ps.length capq], .slice C pl.length capp] w fun e w' => e = .returned (.int .i64 (idxF (outL l h) (levsTo v fs pl ps pl.length))) ∧ Below w.heap.size w w' := by
  have HLL := hid (levsTo_len (v := v) (fs := fs) (pl := pl) (ps := ps) pl.length)
  obtain ⟨ls, hls⟩ : ∃ ls, ls = levsTo v fs pl ps pl.length := ⟨_, rfl⟩
  have HLS := hid hls
  rw [← hls]
  rw [← hls] at HLL
  clear hls
  obtain ⟨n, hnn⟩ : ∃ n, n = pl.length := ⟨_, rfl⟩
  have HN := hid hnn
  have hnb : n ≤ 5 := by omega
  clear hnn
  go_enter Try.func56, Try.ntmps56
  go_wp2_with (first | (go_at_call 66; refine (c_spec_l12Levels _ _ _ _ fs _ _ ps _ _ pl _ _ (by first | assumption | exact Rds.below hx (by (repeat' (first | exact Below.refl _ _ | assumption | refine Below.setCell ?_ ?_ _ | refine Below.drew ?_ | refine Below.alloc ?_ ?_ _ | refine Below.trans ?_ (Below.mono (by assumption) ?_) | (simp; done) | (simp; omega) | omega)))) (by omega) (by first | assumption | exact Rds.below hy (by (repeat' (first | exact Below.refl _ _ | assumption | refine Below.setCell ?_ ?_ _ | refine Below.drew ?_ | refine Below.alloc ?_ ?_ _ | refine Below.trans ?_ (Below.mono (by assumption) ?_) | (simp; done) | (simp; omega) | omega)))) (by omega) (by first | assumption | exact Rds.below hr (by (repeat' (first | exact Below.refl _ _ | assumption | refine Below.setCell ?_ ?_ _ | refine Below.drew ?_ | refine Below.alloc ?_ ?_ _ | refine Below.trans ?_ (Below.mono (by assumption) ?_) | (simp; done) | (simp; omega) | omega)))) (by omega) (by omega) hfl hpu (by omega) (by omega) hbt).mono ?_; rw [← HLS.out, ← HN.out]; rintro e w' ⟨A9, c9, rfl, hF9, hb⟩; have hr9 := hF9.rds; have hlo9 : Lo w.heap.size A9 := hF9.lo.mono (by first | omega | (simp; done) | (simp; omega)); clear hF9; have hc := cellOf hb; have hf := frozOf hb; have hz := sizeOf hb; try simp at hz))
  clear hfl hpu hbt
  go_loopw [6] (fun i wr => ∃ k : Nat, k ≤ n ∧ i = .int .i64 k ∧ (ls.take k).any (outL l h) = false ∧ Rds cIn 1 wr A9 ls ∧ wr.cell? ⟨w.heap.size, 0, none⟩ = some (.int .i64 l) ∧ wr.cell? ⟨w.heap.size, 1, none⟩ = some (.int .i64 h) ∧ wr.cell? ⟨w.heap.size, 2, none⟩ = some (.int .i64 v) ∧ wr.cell? ⟨w.heap.size, 3, none⟩ = some (.slice A fs.length capf) ∧ wr.cell? ⟨w.heap.size, 4, none⟩ = some (.slice B ps.length capq) ∧ w.heap.size + 1 ≤ wr.heap.size ∧ Below w.heap.size w wr) (fun i _ => n - (intOf i).toNat)
  case atStart =>
    refine ⟨0, Nat.zero_le _, rfl, rfl, hr9, ?_, ?_, ?_, ?_, ?_, ?_, by (repeat' (first | exact Below.refl _ _ | assumption | refine Below.setCell ?_ ?_ _ | refine Below.drew ?_ | refine Below.alloc ?_ ?_ _ | refine Below.trans ?_ (Below.mono (by assumption) ?_) | (simp; done) | (simp; omega) | omega))⟩
    all_goals first | (simp [go_sem, ↓IntWalk.iteOmega, *]; done) | (simp at *; omega) | (simp [go_sem, ↓IntWalk.iteOmega, *]; omega)
  case round =>
    obtain ⟨k, hk, rfl, han, hrr, hp0, hp1, hp2, hp3, hp4, hzz, hbr⟩ := hrel
    clear hc hf hz hr9
    have hc := cellOf hbr
    have hf := frozOf hbr
    have hz := sizeOf hbr
    have hp0' : far _ _ _ = _ := hp0
    have hp1' : far _ _ _ = _ := hp1
    have hp2' : far _ _ _ = _ := hp2
    have hp3' : far _ _ _ = _ := hp3
    have hp4' : far _ _ _ = _ := hp4
    have HA := hid han
    clear han
    by_cases hlt : k < n
    · have hlt2 : k < ls.length := by rw [HLL.out, ← HN.out]; exact hlt
      obtain ⟨bx, ox, rfl, hbx, hcx⟩ := hrr k ls[k] (List.getElem?_eq_getElem hlt2)
      have hx0 := hcx 0 _ rfl
      simp only [Nat.add_zero, Nat.mul_one] at hx0
      have hbl : w.heap.size ≤ bx := hlo9 _ rfl
      have hx0' : far _ _ _ = _ := hx0
      have HR := hid hrr
      have HS := hid (any_snoc (outL l h) ls k hlt2)
      have HH := hid (fun hp => idxF_hit (p := outL l h) (xs := ls) HA.out hlt2 hp)
      clear hcx hrr
      generalize ls[k] = x at *
      go_wp2_with (fail)
      refine wp_region_w (n := 10) [] [] (FS56_5 l h v A fs.length capf B ps.length capq x bx ox k n c9 w) rfl (by kernel_rfl) (fun _ _ d _ _ h => by cases d <;> exact h) ?_ ?_ ?_ ?_ ?_ ?_
      · intro iq
        match iq with
        | 0 | 1 | 2 | 3 | 4 | 5 | 6 | 7 | 8 | 9 => exact Stable.const _
        | n + 10 => exact Stable.const _
      · intro iq hi
        exact absurd hi (by simp)
      · intro iq hi
        exact absurd hi (by simp)
      · intro iq o hi hl ho vals w1 hb1 hf
        exact absurd hl (by simp)
      · intro iq o hi hl ho vals w1 hb1 hf
        match iq, hi with
        | 0, _ =>
          injection ho with ho
          subst ho
          clear hl
          simp only [fillA, List.take, List.drop, put_none, Act.put, List.setIfInBounds_toArray, List.set_cons_zero, List.set_cons_succ, Nat.reduceAdd]
          clear hf
          go_wp2_with (fail)
          exact RQ.mk rfl ⟨(by first | rfl | (simp [FS56_5]; done) | (simp [FS56_5, *]; done) | (simp [FS56_5, gotV]; done) | (simp [FS56_5, gotV]; omega)), fun h => absurd h (by decide)⟩ (Below.refl _ _)
        | 1, _ =>
          injection ho with ho
          subst ho
          clear hl
          simp only [fillA, List.take, List.drop, put_none, Act.put, List.setIfInBounds_toArray, List.set_cons_zero, List.set_cons_succ, Nat.reduceAdd]
          clear hf
          go_wp2_with (fail)
          exact RQ.mk rfl ⟨(by first | rfl | (simp [FS56_5]; done) | (simp [FS56_5, *]; done) | (simp [FS56_5, gotV]; done) | (simp [FS56_5, gotV]; omega)), fun h => absurd h (by decide)⟩ (Below.refl _ _)
        | 2, _ =>
          injection ho with ho
          subst ho
          clear hl
          simp only [fillA, List.take, List.drop, put_none, Act.put, List.setIfInBounds_toArray, List.set_cons_zero, List.set_cons_succ, Nat.reduceAdd]
          have f0 := hf 0 (by decide) (by kernel_rfl)
          generalize vals 0 = v0 at *
          subst f0
          have f1 := hf 1 (by decide) (by kernel_rfl)
          generalize vals 1 = v1 at *
          subst f1
          clear hf
          go_wp2_with (fail)
          exact RQ.mk rfl ⟨(by first | rfl | (simp [FS56_5]; done) | (simp [FS56_5, *]; done) | (simp [FS56_5, gotV]; done) | (simp [FS56_5, gotV]; omega)), fun h => absurd h (by decide)⟩ (Below.refl _ _)
        | 3, _ =>
          injection ho with ho
          subst ho
          clear hl
          simp only [fillA, List.take, List.drop, put_none, Act.put, List.setIfInBounds_toArray, List.set_cons_zero, List.set_cons_succ, Nat.reduceAdd]
          have f2 := hf 2 (by decide) (by kernel_rfl)
          generalize vals 2 = v2 at *
          subst f2
          clear hf
          have hc1 := cellOf hb1
          have hf1 := frozOf hb1
          have hz1 := sizeOf hb1
          try simp at hz1
          go_wp2_with (fail)
          exact RQ.mk rfl ⟨(by first | rfl | (simp [FS56_5]; done) | (simp [FS56_5, *]; done) | (simp [FS56_5, gotV]; done) | (simp [FS56_5, gotV]; omega)), fun h => absurd h (by decide)⟩ (Below.refl _ _)
        | 4, _ =>
          injection ho with ho
          subst ho
          clear hl
          simp only [fillA, List.take, List.drop, put_none, Act.put, List.setIfInBounds_toArray, List.set_cons_zero, List.set_cons_succ, Nat.reduceAdd]
          clear hf
          go_wp2_with (fail)
          exact RQ.mk rfl ⟨(by first | rfl | (simp [FS56_5]; done) | (simp [FS56_5, *]; done) | (simp [FS56_5, gotV]; done) | (simp [FS56_5, gotV]; omega)), fun h => absurd h (by decide)⟩ (Below.refl _ _)
        | 5, _ =>
          injection ho with ho
          subst ho
          clear hl
          simp only [fillA, List.take, List.drop, put_none, Act.put, List.setIfInBounds_toArray, List.set_cons_zero, List.set_cons_succ, Nat.reduceAdd]
          have f4 := hf 4 (by decide) (by kernel_rfl)
          generalize vals 4 = v4 at *
          subst f4
          clear hf
          have hc1 := cellOf hb1
          have hf1 := frozOf hb1
          have hz1 := sizeOf hb1
          try simp at hz1
          go_wp2_with (fail)
          exact RQ.mk rfl ⟨(by first | rfl | (simp [FS56_5]; done) | (simp [FS56_5, *]; done) | (simp [FS56_5, gotV]; done) | (simp [FS56_5, gotV]; omega)), fun h => absurd h (by decide)⟩ (Below.refl _ _)
        | 6, _ =>
          injection ho with ho
          subst ho
          clear hl
          simp only [fillA, List.take, List.drop, put_none, Act.put, List.setIfInBounds_toArray, List.set_cons_zero, List.set_cons_succ, Nat.reduceAdd]
          clear hf
          go_wp2_with (fail)
          exact RQ.mk rfl ⟨(by first | rfl | (simp [FS56_5]; done) | (simp [FS56_5, *]; done) | (simp [FS56_5, gotV]; done) | (simp [FS56_5, gotV]; omega)), fun h => absurd h (by decide)⟩ (Below.refl _ _)
        | 7, _ =>
          injection ho with ho
          subst ho
          clear hl
          simp only [fillA, List.take, List.drop, put_none, Act.put, List.setIfInBounds_toArray, List.set_cons_zero, List.set_cons_succ, Nat.reduceAdd]
          have f6 := hf 6 (by decide) (by kernel_rfl)
          generalize vals 6 = v6 at *
          subst f6
          clear hf
          have hc1 := cellOf hb1
          have hf1 := frozOf hb1
          have hz1 := sizeOf hb1
          try simp at hz1
          go_wp2_with (fail)
          exact RQ.mk rfl ⟨(by first | rfl | (simp [FS56_5]; done) | (simp [FS56_5, *]; done) | (simp [FS56_5, gotV]; done) | (simp [FS56_5, gotV]; omega)), fun h => absurd h (by decide)⟩ (Below.refl _ _)
        | 8, _ =>
          injection ho with ho
          subst ho
          clear hl
          simp only [fillA, List.take, List.drop, put_none, Act.put, List.setIfInBounds_toArray, List.set_cons_zero, List.set_cons_succ, Nat.reduceAdd]
          have f3 := hf 3 (by decide) (by kernel_rfl)
          generalize vals 3 = v3 at *
          subst f3
          have f5 := hf 5 (by decide) (by kernel_rfl)
          generalize vals 5 = v5 at *
          subst f5
          have f7 := hf 7 (by decide) (by kernel_rfl)
          generalize vals 7 = v7 at *
          subst f7
          clear hf
          have hc1 := cellOf hb1
          have hf1 := frozOf hb1
          have hz1 := sizeOf hb1
          try simp at hz1
          go_wp2_with (first | (go_at_call 59; refine (c_spec_l1In _ _ _ _ ).mono ?_; rintro e w' ⟨rfl, hb⟩; have hc := cellOf hb; have hf := frozOf hb; have hz := sizeOf hb; try simp at hz))
          exact RQ.mk rfl ⟨(by first | rfl | (simp [FS56_5]; done) | (simp [FS56_5, *]; done) | (simp [FS56_5, gotV]; done) | (simp [FS56_5, gotV]; omega)), fun h => absurd h (by decide)⟩ (by (repeat' (first | exact Below.refl _ _ | assumption | refine Below.setCell ?_ ?_ _ | refine Below.drew ?_ | refine Below.alloc ?_ ?_ _ | refine Below.trans ?_ (Below.mono (by assumption) ?_) | (simp; done) | (simp; omega) | omega)))
        | 9, _ =>
          injection ho with ho
          subst ho
          clear hl
          simp only [fillA, List.take, List.drop, put_none, Act.put, List.setIfInBounds_toArray, List.set_cons_zero, List.set_cons_succ, Nat.reduceAdd]
          have f8 := hf 8 (by decide) (by kernel_rfl)
          generalize vals 8 = v8 at *
          subst f8
          clear hf
          go_wp2_with (fail)
          exact RQ.mk rfl ⟨(by first | rfl | (simp [FS56_5]; done) | (simp [FS56_5, *]; done) | (simp [FS56_5, gotV]; done) | (simp [FS56_5, gotV]; omega)), fun h => absurd h (by decide)⟩ (Below.refl _ _)
      · intro vals w1 hb1 hf hd
        simp only [fillA, List.take, List.drop, put_none, Act.put, List.setIfInBounds_toArray, List.set_cons_zero, List.set_cons_succ, Nat.reduceAdd]
        clear hd
        have f0 := hf 0 (by decide)
        generalize vals 0 = v0 at *
        subst f0
        have f1 := hf 1 (by decide)
        generalize vals 1 = v1 at *
        subst f1
        have f2 := hf 2 (by decide)
        generalize vals 2 = v2 at *
        subst f2
        have f3 := hf 3 (by decide)
        generalize vals 3 = v3 at *
        subst f3
        have f4 := hf 4 (by decide)
        generalize vals 4 = v4 at *
        subst f4
        have f5 := hf 5 (by decide)
        generalize vals 5 = v5 at *
        subst f5
        have f6 := hf 6 (by decide)
        generalize vals 6 = v6 at *
        subst f6
        have f7 := hf 7 (by decide)
        generalize vals 7 = v7 at *
        subst f7
        have f8 := hf 8 (by decide)
        generalize vals 8 = v8 at *
        subst f8
        have f9 := hf 9 (by decide)
        generalize vals 9 = v9 at *
        subst f9
        clear hf
        have hc1 := cellOf hb1
        have hf1 := frozOf hb1
        have hz1 := sizeOf hb1
        try simp at hz1
        by_cases hg : inB x l h = true
        · have HG : Hid (outL l h x = false) := by show _ = _; simp [outL, hg]
          clear HH
          simp only [hg]
          go_wp2_with (fail)
          go_roundw
          case rel =>
            refine ⟨k + 1, by omega, by go_num, by rw [HS.out, HA.out, HG.out]; rfl, HR.out.below (by (repeat' (first | exact Below.refl _ _ | assumption | refine Below.setCell ?_ ?_ _ | refine Below.drew ?_ | refine Below.alloc ?_ ?_ _ | refine Below.trans ?_ (Below.mono (by assumption) ?_) | (simp; done) | (simp; omega) | omega))), ?_, ?_, ?_, ?_, ?_, ?_, by (repeat' (first | exact Below.refl _ _ | assumption | refine Below.setCell ?_ ?_ _ | refine Below.drew ?_ | refine Below.alloc ?_ ?_ _ | refine Below.trans ?_ (Below.mono (by assumption) ?_) | (simp; done) | (simp; omega) | omega))⟩
            all_goals first | (simp [go_sem, ↓IntWalk.iteOmega, *]; done) | (simp [go_sem, ↓IntWalk.iteOmega, *]; omega) | omega
          case measure => simp [intOf]; omega
        · have hgf : inB x l h = false := by simpa using hg
          have HV := hid (HH.out (by simp [outL, hgf]))
          clear hg HH
          simp only [hgf]
          go_wp2_with (fail)
          go_ret
          exact ⟨ret_int (by rw [HV.out]), by (repeat' (first | exact Below.refl _ _ | assumption | refine Below.setCell ?_ ?_ _ | refine Below.drew ?_ | refine Below.alloc ?_ ?_ _ | refine Below.trans ?_ (Below.mono (by assumption) ?_) | (simp; done) | (simp; omega) | omega))⟩
    · obtain rfl : k = n := by omega
      have HV := hid (idxF_none (p := outL l h) (xs := ls) (by have := HA.out; rwa [List.take_of_length_le (by rw [HLL.out, ← HN.out]; exact Nat.le_refl _)] at this))
      go_wp2_with (fail)
      go_ret
      exact ⟨ret_int (by rw [HV.out]), by (repeat' (first | exact Below.refl _ _ | assumption | refine Below.setCell ?_ ?_ _ | refine Below.drew ?_ | refine Below.alloc ?_ ?_ _ | refine Below.trans ?_ (Below.mono (by assumption) ?_) | (simp; done) | (simp; omega) | omega))⟩

end Go.Proofs.Ytpaclngjmdacjaa
namespace Go.Proofs.Ytpaclngjmdacjaa
set_option linter.unusedSimpArgs false
set_option linter.unusedVariables false
open Go.RowKit

set_option maxRecDepth 100000 in
set_option maxHeartbeats 8000000 in
theorem c_spec_l12Cost (l h v : Int) (A : Option Addr) (fs : List Int) (capf : Nat) (B : Option Addr) (ps : List (Int × Int × Int)) (capq : Nat) (C : Option Addr) (pl : List Int) (capp : Nat) (w : World) (hx : Rds cIn 1 w A fs) (hn : fs.length ≤ 9223372036854775807) (hy : Rds cPu 3 w B ps) (hm : ps.length ≤ 9223372036854775807) (hr : Rds cIn 1 w C pl) (hnr : pl.length ≤ 5) (hpu : ∀ k (hk : k < ps.length), puOk ps[k] = true) (hn2 : ps.length ≤ 2) (hbt : ∀ k (hk : k < pl.length), 0 ≤ pl[k] ∧ pl[k] ≤ 3) :
    Calls Try.prog 55 #[.agg #[.int .i64 l, .int .i64 h, .int .i64 v, .slice A fs.length capf, .slice B ps.length capq], .slice C pl.length capp] w fun e w' => e = .returned (.tuple #[.int .i64 (payTo pl ps pl.length), .int .i64 (startsTo pl ps pl.length)]) ∧ Below w.heap.size w w' := by
  go_enter Try.func55, Try.ntmps55
  go_wp2_with (fail)
  go_loopw [6, 7, 8] (fun s c i wr => ∃ k : Nat, k ≤ pl.length ∧ i = .int .i64 k ∧ s = .int .i64 (payTo pl ps k) ∧ c = .int .i64 (startsTo pl ps k) ∧ wr.cell? ⟨w.heap.size, 0, none⟩ = some (.int .i64 l) ∧ wr.cell? ⟨w.heap.size, 1, none⟩ = some (.int .i64 h) ∧ wr.cell? ⟨w.heap.size, 2, none⟩ = some (.int .i64 v) ∧ wr.cell? ⟨w.heap.size, 3, none⟩ = some (.slice A fs.length capf) ∧ wr.cell? ⟨w.heap.size, 4, none⟩ = some (.slice B ps.length capq) ∧ w.heap.size + 1 ≤ wr.heap.size ∧ Below w.heap.size w wr) (fun _ _ i _ => pl.length - (intOf i).toNat)
  case atStart =>
    refine ⟨0, Nat.zero_le _, rfl, rfl, rfl, ?_, ?_, ?_, ?_, ?_, ?_, by (repeat' (first | exact Below.refl _ _ | assumption | refine Below.setCell ?_ ?_ _ | refine Below.drew ?_ | refine Below.alloc ?_ ?_ _ | refine Below.trans ?_ (Below.mono (by assumption) ?_) | (simp; done) | (simp; omega) | omega))⟩
    all_goals first | (simp [go_sem, ↓IntWalk.iteOmega, *]; done) | (simp at *; omega)
  case round =>
    obtain ⟨k, hk, rfl, rfl, rfl, hp0, hp1, hp2, hp3, hp4, hzz, hbr⟩ := hrel
    have hc := cellOf hbr
    have hf := frozOf hbr
    have hz := sizeOf hbr
    by_cases hlt : k < pl.length
    rotate_left
    · obtain rfl : k = pl.length := by omega
      go_wp2_with (fail)
      go_ret2
      exact ⟨rfl, by (repeat' (first | exact Below.refl _ _ | assumption | refine Below.setCell ?_ ?_ _ | refine Below.drew ?_ | refine Below.alloc ?_ ?_ _ | refine Below.trans ?_ (Below.mono (by assumption) ?_) | (simp; done) | (simp; omega) | omega))⟩
    have hyb := payTo_bd (pl := pl) hpu hn2 k hk
    have hsb := startsTo_bd (pl := pl) (ps := ps) hn2 k hk
    have hxb := hbt k hlt
    have hbb := befB_bd hbt k hk
    have HXK := hid (List.getElem?_eq_getElem hlt)
    have HCA := hid (bef_case (pl := pl) k hk)
    have HY1 := hid (payTo_succ (ps := ps) k hlt)
    have HS1 := hid (startsTo_succ (ps := ps) k hlt)
    have HCB := hid (fun b x => costTo_bd hpu b x)
    have HSB := hid (fun b x => startTo_bd (ps := ps) b x)
    have HBT := hid hbt
    clear hbt
    obtain ⟨x, hxk⟩ : ∃ x, x = pl[k] := ⟨_, rfl⟩
    simp only [← hxk] at hxb HXK HY1 HS1
    clear hxk
    generalize befB pl k = b at *
    generalize payTo pl ps k = py at *
    generalize startsTo pl ps k = st at *
    go_wp2_with (fail)
    go_loopw [6, 7, 9] (fun s c i wv => ∃ q : Nat, q ≤ ps.length ∧ i = .int .i64 q ∧ s = .int .i64 (py + costTo ps b x q) ∧ c = .int .i64 (st + startTo ps b x q) ∧ wv.cell? ⟨w.heap.size, 0, none⟩ = some (.int .i64 l) ∧ wv.cell? ⟨w.heap.size, 1, none⟩ = some (.int .i64 h) ∧ wv.cell? ⟨w.heap.size, 2, none⟩ = some (.int .i64 v) ∧ wv.cell? ⟨w.heap.size, 3, none⟩ = some (.slice A fs.length capf) ∧ wv.cell? ⟨w.heap.size, 4, none⟩ = some (.slice B ps.length capq) ∧ w.heap.size + 1 ≤ wv.heap.size ∧ Below w.heap.size w wv) (fun _ _ i _ => ps.length - (intOf i).toNat)
    case atStart =>
      refine ⟨0, Nat.zero_le _, rfl, by simp [costTo], by simp [startTo], ?_, ?_, ?_, ?_, ?_, ?_, by (repeat' (first | exact Below.refl _ _ | assumption | refine Below.setCell ?_ ?_ _ | refine Below.drew ?_ | refine Below.alloc ?_ ?_ _ | refine Below.trans ?_ (Below.mono (by assumption) ?_) | (simp; done) | (simp; omega) | omega))⟩
      all_goals first | assumption | (simp [go_sem, ↓IntWalk.iteOmega, *]; done) | (simp at *; omega)
    case round =>
      obtain ⟨q, hq, rfl, rfl, rfl, hp0, hp1, hp2, hp3, hp4, hzz, hbv⟩ := hrel
      clear hc hf hz
      have hc := cellOf hbv
      have hf := frozOf hbv
      have hz := sizeOf hbv
      have hp0' : far _ _ _ = _ := hp0
      have hp1' : far _ _ _ = _ := hp1
      have hp2' : far _ _ _ = _ := hp2
      have hp3' : far _ _ _ = _ := hp3
      have hp4' : far _ _ _ = _ := hp4
      have hcb := HCB.out b x q hq
      have hstb := HSB.out b x q hq
      by_cases hqp : q < ps.length
      · obtain ⟨bp, op_, rfl, hbp, hcp⟩ := hy q ps[q] (List.getElem?_eq_getElem hqp)
        have hg0 := hcp 0 _ rfl
        have hg1 := hcp 1 _ rfl
        have hg2 := hcp 2 _ rfl
        simp only [Nat.add_zero] at hg0
        have hgb := puOk_bd (hpu q hqp)
        have HC1 := hid (costTo_succ b x q hqp)
        have HT1 := hid (startTo_succ b x q hqp)
        have hq1 : q ≤ 1 := by omega
        clear hcp hy
        generalize ps[q] = g at *
        generalize costTo ps b x q = ct at *
        generalize startTo ps b x q = sst at *
        by_cases h1 : bitB x q = true
        rotate_left
        · have h1f : bitB x q = false := by simpa using h1
          rw [if_neg h1] at HC1 HT1
          clear h1
          go_wp2_with (first | (go_at_call 76; refine (c_spec_l12Runs _ pl _ _ (k : Int) x q _ (by first | assumption | exact Rds.below hr (by (repeat' (first | exact Below.refl _ _ | assumption | refine Below.setCell ?_ ?_ _ | refine Below.drew ?_ | refine Below.alloc ?_ ?_ _ | refine Below.trans ?_ (Below.mono (by assumption) ?_) | (simp; done) | (simp; omega) | omega)))) rfl (by omega) hq1 hxb (.inr ⟨k, rfl, HXK.out⟩)).mono ?_; rintro e w' ⟨rfl, hb⟩; have hc := cellOf hb; have hf := frozOf hb; have hz := sizeOf hb; try simp at hz))
          go_roundw
          case rel =>
            refine ⟨q + 1, by omega, by go_num, by rw [HC1.out]; simp, by rw [HT1.out]; simp, ?_, ?_, ?_, ?_, ?_, ?_, by (repeat' (first | exact Below.refl _ _ | assumption | refine Below.setCell ?_ ?_ _ | refine Below.drew ?_ | refine Below.alloc ?_ ?_ _ | refine Below.trans ?_ (Below.mono (by assumption) ?_) | (simp; done) | (simp; omega) | omega))⟩
            all_goals first | (simp [go_sem, ↓IntWalk.iteOmega, *]; done) | (simp [go_sem, ↓IntWalk.iteOmega, *]; omega) | omega
          case measure => simp [intOf]; omega
        rw [if_pos h1] at HC1 HT1
        by_cases h2 : bitB b q = true
        · rw [if_pos h2] at HC1 HT1
          go_wp2_with (first | (go_at_call 76; with_reducible (show Calls Try.prog _ #[_, Value.int IntKind.i64 (k : Int), _] _ _); refine (c_spec_l12Runs _ pl _ _ (k : Int) x q _ (by first | assumption | exact Rds.below hr (by (repeat' (first | exact Below.refl _ _ | assumption | refine Below.setCell ?_ ?_ _ | refine Below.drew ?_ | refine Below.alloc ?_ ?_ _ | refine Below.trans ?_ (Below.mono (by assumption) ?_) | (simp; done) | (simp; omega) | omega)))) rfl (by omega) hq1 hxb (.inr ⟨k, rfl, HXK.out⟩)).mono ?_; rintro e w' ⟨rfl, hb⟩; have hc := cellOf hb; have hf := frozOf hb; have hz := sizeOf hb; try simp at hz) | (go_at_call 76; refine (c_spec_l12Runs _ pl _ _ ((k : Int) - 1) b q _ (by first | assumption | exact Rds.below hr (by (repeat' (first | exact Below.refl _ _ | assumption | refine Below.setCell ?_ ?_ _ | refine Below.drew ?_ | refine Below.alloc ?_ ?_ _ | refine Below.trans ?_ (Below.mono (by assumption) ?_) | (simp; done) | (simp; omega) | omega)))) rfl (by omega) hq1 hbb HCA.out).mono ?_; rintro e w' ⟨rfl, hb⟩; have hc := cellOf hb; have hf := frozOf hb; have hz := sizeOf hb; try simp at hz))
          go_roundw
          case rel =>
            refine ⟨q + 1, by omega, by go_num, by rw [HC1.out]; exact int_eq (by omega), by rw [HT1.out]; exact int_eq (by omega), ?_, ?_, ?_, ?_, ?_, ?_, by (repeat' (first | exact Below.refl _ _ | assumption | refine Below.setCell ?_ ?_ _ | refine Below.drew ?_ | refine Below.alloc ?_ ?_ _ | refine Below.trans ?_ (Below.mono (by assumption) ?_) | (simp; done) | (simp; omega) | omega))⟩
            all_goals first | (simp [go_sem, ↓IntWalk.iteOmega, *]; done) | (simp [go_sem, ↓IntWalk.iteOmega, *]; omega) | omega
          case measure => simp [intOf]; omega
        · have h2f : bitB b q = false := by simpa using h2
          rw [if_neg h2] at HC1 HT1
          clear h2
          go_wp2_with (first | (go_at_call 76; with_reducible (show Calls Try.prog _ #[_, Value.int IntKind.i64 (k : Int), _] _ _); refine (c_spec_l12Runs _ pl _ _ (k : Int) x q _ (by first | assumption | exact Rds.below hr (by (repeat' (first | exact Below.refl _ _ | assumption | refine Below.setCell ?_ ?_ _ | refine Below.drew ?_ | refine Below.alloc ?_ ?_ _ | refine Below.trans ?_ (Below.mono (by assumption) ?_) | (simp; done) | (simp; omega) | omega)))) rfl (by omega) hq1 hxb (.inr ⟨k, rfl, HXK.out⟩)).mono ?_; rintro e w' ⟨rfl, hb⟩; have hc := cellOf hb; have hf := frozOf hb; have hz := sizeOf hb; try simp at hz) | (go_at_call 76; refine (c_spec_l12Runs _ pl _ _ ((k : Int) - 1) b q _ (by first | assumption | exact Rds.below hr (by (repeat' (first | exact Below.refl _ _ | assumption | refine Below.setCell ?_ ?_ _ | refine Below.drew ?_ | refine Below.alloc ?_ ?_ _ | refine Below.trans ?_ (Below.mono (by assumption) ?_) | (simp; done) | (simp; omega) | omega)))) rfl (by omega) hq1 hbb HCA.out).mono ?_; rintro e w' ⟨rfl, hb⟩; have hc := cellOf hb; have hf := frozOf hb; have hz := sizeOf hb; try simp at hz))
          go_roundw
          case rel =>
            refine ⟨q + 1, by omega, by go_num, by rw [HC1.out]; exact int_eq (by omega), by rw [HT1.out]; exact int_eq (by omega), ?_, ?_, ?_, ?_, ?_, ?_, by (repeat' (first | exact Below.refl _ _ | assumption | refine Below.setCell ?_ ?_ _ | refine Below.drew ?_ | refine Below.alloc ?_ ?_ _ | refine Below.trans ?_ (Below.mono (by assumption) ?_) | (simp; done) | (simp; omega) | omega))⟩
            all_goals first | (simp [go_sem, ↓IntWalk.iteOmega, *]; done) | (simp [go_sem, ↓IntWalk.iteOmega, *]; omega) | omega
          case measure => simp [intOf]; omega
      · obtain rfl : q = ps.length := by omega
        go_wp2_with (fail)
        go_roundw
        case rel =>
          refine ⟨k + 1, by omega, by go_num, by rw [HY1.out], by rw [HS1.out], ?_, ?_, ?_, ?_, ?_, ?_, by (repeat' (first | exact Below.refl _ _ | assumption | refine Below.setCell ?_ ?_ _ | refine Below.drew ?_ | refine Below.alloc ?_ ?_ _ | refine Below.trans ?_ (Below.mono (by assumption) ?_) | (simp; done) | (simp; omega) | omega))⟩
          all_goals first | assumption | (simp [go_sem, ↓IntWalk.iteOmega, *]; done) | (simp [go_sem, ↓IntWalk.iteOmega, *]; omega) | omega
        case measure => simp [intOf]; omega

set_option maxRecDepth 100000 in
set_option maxHeartbeats 4000000 in
theorem c_spec_PlanCost (l h v : Int) (A : Option Addr) (fs : List Int) (capf : Nat) (B : Option Addr) (ps : List (Int × Int × Int)) (capq : Nat) (C : Option Addr) (pl : List Int) (capp : Nat) (w : World) (hx : Rds cIn 1 w A fs) (hn : fs.length ≤ 9223372036854775807) (hy : Rds cPu 3 w B ps) (hm : ps.length ≤ 9223372036854775807) (hr : Rds cIn 1 w C pl) (hnr : pl.length ≤ 9223372036854775807) :
    Calls Try.prog 22 #[.agg #[.int .i64 l, .int .i64 h, .int .i64 v, .slice A fs.length capf, .slice B ps.length capq], .slice C pl.length capp] w fun e w' => e = .returned (.tuple #[.int .i64 (payV l h v fs ps pl).1, .bool (payV l h v fs ps pl).2]) ∧ Below w.heap.size w w' := by
  skip
  by_cases hs0 : planB l h v fs ps pl = true
  rotate_left
  · have hn0 : planB l h v fs ps pl = false := Bool.eq_false_iff.2 hs0
    have HV := hid (show payV l h v fs ps pl = (0, false) by simp [payV, hn0])
    clear hs0
    go_enter Try.func22, Try.ntmps22
    go_wp2_with (first | (go_at_call 49; refine (c_spec_l12Plan _ _ _ _ _ _ _ _ _ _ _ _ _ (by first | assumption | exact Rds.below hx (by (repeat' (first | exact Below.refl _ _ | assumption | refine Below.setCell ?_ ?_ _ | refine Below.drew ?_ | refine Below.alloc ?_ ?_ _ | refine Below.trans ?_ (Below.mono (by assumption) ?_) | (simp; done) | (simp; omega) | omega)))) (by omega) (by first | assumption | exact Rds.below hy (by (repeat' (first | exact Below.refl _ _ | assumption | refine Below.setCell ?_ ?_ _ | refine Below.drew ?_ | refine Below.alloc ?_ ?_ _ | refine Below.trans ?_ (Below.mono (by assumption) ?_) | (simp; done) | (simp; omega) | omega)))) (by omega) (by first | assumption | exact Rds.below hr (by (repeat' (first | exact Below.refl _ _ | assumption | refine Below.setCell ?_ ?_ _ | refine Below.drew ?_ | refine Below.alloc ?_ ?_ _ | refine Below.trans ?_ (Below.mono (by assumption) ?_) | (simp; done) | (simp; omega) | omega)))) (by omega)).mono ?_; rintro e w' ⟨rfl, hb⟩; have hc := cellOf hb; have hf := frozOf hb; have hz := sizeOf hb; try simp at hz))
    all_goals go_ret2
    all_goals exact ⟨by first | (rw [HV.out]; done) | (rw [HV.out]; rfl), by (repeat' (first | exact Below.refl _ _ | assumption | refine Below.setCell ?_ ?_ _ | refine Below.drew ?_ | refine Below.alloc ?_ ?_ _ | refine Below.trans ?_ (Below.mono (by assumption) ?_) | (simp; done) | (simp; omega) | omega))⟩
  obtain ⟨hv, hn2, hl1, hnr5, hfl, hpu, hbt⟩ := planB_facts hs0
  have HV := hid (show payV l h v fs ps pl = (payTo pl ps pl.length, true) by simp [payV, hs0])
  go_enter Try.func22, Try.ntmps22
  go_wp2_with (first | (first | (go_at_call 49; refine (c_spec_l12Plan _ _ _ _ _ _ _ _ _ _ _ _ _ (by first | assumption | exact Rds.below hx (by (repeat' (first | exact Below.refl _ _ | assumption | refine Below.setCell ?_ ?_ _ | refine Below.drew ?_ | refine Below.alloc ?_ ?_ _ | refine Below.trans ?_ (Below.mono (by assumption) ?_) | (simp; done) | (simp; omega) | omega)))) (by omega) (by first | assumption | exact Rds.below hy (by (repeat' (first | exact Below.refl _ _ | assumption | refine Below.setCell ?_ ?_ _ | refine Below.drew ?_ | refine Below.alloc ?_ ?_ _ | refine Below.trans ?_ (Below.mono (by assumption) ?_) | (simp; done) | (simp; omega) | omega)))) (by omega) (by first | assumption | exact Rds.below hr (by (repeat' (first | exact Below.refl _ _ | assumption | refine Below.setCell ?_ ?_ _ | refine Below.drew ?_ | refine Below.alloc ?_ ?_ _ | refine Below.trans ?_ (Below.mono (by assumption) ?_) | (simp; done) | (simp; omega) | omega)))) (by omega)).mono ?_; rintro e w' ⟨rfl, hb⟩; have hc := cellOf hb; have hf := frozOf hb; have hz := sizeOf hb; try simp at hz)) | (go_at_call 55; refine (c_spec_l12Cost _ _ _ _ fs _ _ ps _ _ pl _ _ (by first | assumption | exact Rds.below hx (by (repeat' (first | exact Below.refl _ _ | assumption | refine Below.setCell ?_ ?_ _ | refine Below.drew ?_ | refine Below.alloc ?_ ?_ _ | refine Below.trans ?_ (Below.mono (by assumption) ?_) | (simp; done) | (simp; omega) | omega)))) (by omega) (by first | assumption | exact Rds.below hy (by (repeat' (first | exact Below.refl _ _ | assumption | refine Below.setCell ?_ ?_ _ | refine Below.drew ?_ | refine Below.alloc ?_ ?_ _ | refine Below.trans ?_ (Below.mono (by assumption) ?_) | (simp; done) | (simp; omega) | omega)))) (by omega) (by first | assumption | exact Rds.below hr (by (repeat' (first | exact Below.refl _ _ | assumption | refine Below.setCell ?_ ?_ _ | refine Below.drew ?_ | refine Below.alloc ?_ ?_ _ | refine Below.trans ?_ (Below.mono (by assumption) ?_) | (simp; done) | (simp; omega) | omega)))) (by omega) hpu (by omega) hbt).mono ?_; rintro e w' ⟨rfl, hb⟩; have hc := cellOf hb; have hf := frozOf hb; have hz := sizeOf hb; try simp at hz))
  go_ret2
  exact ⟨by first | (rw [HV.out]; done) | (rw [HV.out]; rfl), by (repeat' (first | exact Below.refl _ _ | assumption | refine Below.setCell ?_ ?_ _ | refine Below.drew ?_ | refine Below.alloc ?_ ?_ _ | refine Below.trans ?_ (Below.mono (by assumption) ?_) | (simp; done) | (simp; omega) | omega))⟩

set_option maxRecDepth 100000 in
set_option maxHeartbeats 4000000 in
theorem c_spec_CountStarts (l h v : Int) (A : Option Addr) (fs : List Int) (capf : Nat) (B : Option Addr) (ps : List (Int × Int × Int)) (capq : Nat) (C : Option Addr) (pl : List Int) (capp : Nat) (w : World) (hx : Rds cIn 1 w A fs) (hn : fs.length ≤ 9223372036854775807) (hy : Rds cPu 3 w B ps) (hm : ps.length ≤ 9223372036854775807) (hr : Rds cIn 1 w C pl) (hnr : pl.length ≤ 9223372036854775807) :
    Calls Try.prog 20 #[.agg #[.int .i64 l, .int .i64 h, .int .i64 v, .slice A fs.length capf, .slice B ps.length capq], .slice C pl.length capp] w fun e w' => e = .returned (.tuple #[.int .i64 (startV l h v fs ps pl).1, .bool (startV l h v fs ps pl).2]) ∧ Below w.heap.size w w' := by
  skip
  by_cases hs0 : planB l h v fs ps pl = true
  rotate_left
  · have hn0 : planB l h v fs ps pl = false := Bool.eq_false_iff.2 hs0
    have HV := hid (show startV l h v fs ps pl = (0, false) by simp [startV, hn0])
    clear hs0
    go_enter Try.func20, Try.ntmps20
    go_wp2_with (first | (go_at_call 49; refine (c_spec_l12Plan _ _ _ _ _ _ _ _ _ _ _ _ _ (by first | assumption | exact Rds.below hx (by (repeat' (first | exact Below.refl _ _ | assumption | refine Below.setCell ?_ ?_ _ | refine Below.drew ?_ | refine Below.alloc ?_ ?_ _ | refine Below.trans ?_ (Below.mono (by assumption) ?_) | (simp; done) | (simp; omega) | omega)))) (by omega) (by first | assumption | exact Rds.below hy (by (repeat' (first | exact Below.refl _ _ | assumption | refine Below.setCell ?_ ?_ _ | refine Below.drew ?_ | refine Below.alloc ?_ ?_ _ | refine Below.trans ?_ (Below.mono (by assumption) ?_) | (simp; done) | (simp; omega) | omega)))) (by omega) (by first | assumption | exact Rds.below hr (by (repeat' (first | exact Below.refl _ _ | assumption | refine Below.setCell ?_ ?_ _ | refine Below.drew ?_ | refine Below.alloc ?_ ?_ _ | refine Below.trans ?_ (Below.mono (by assumption) ?_) | (simp; done) | (simp; omega) | omega)))) (by omega)).mono ?_; rintro e w' ⟨rfl, hb⟩; have hc := cellOf hb; have hf := frozOf hb; have hz := sizeOf hb; try simp at hz))
    all_goals go_ret2
    all_goals exact ⟨by first | (rw [HV.out]; done) | (rw [HV.out]; rfl), by (repeat' (first | exact Below.refl _ _ | assumption | refine Below.setCell ?_ ?_ _ | refine Below.drew ?_ | refine Below.alloc ?_ ?_ _ | refine Below.trans ?_ (Below.mono (by assumption) ?_) | (simp; done) | (simp; omega) | omega))⟩
  obtain ⟨hv, hn2, hl1, hnr5, hfl, hpu, hbt⟩ := planB_facts hs0
  have HV := hid (show startV l h v fs ps pl = (startsTo pl ps pl.length, true) by simp [startV, hs0])
  go_enter Try.func20, Try.ntmps20
  go_wp2_with (first | (first | (go_at_call 49; refine (c_spec_l12Plan _ _ _ _ _ _ _ _ _ _ _ _ _ (by first | assumption | exact Rds.below hx (by (repeat' (first | exact Below.refl _ _ | assumption | refine Below.setCell ?_ ?_ _ | refine Below.drew ?_ | refine Below.alloc ?_ ?_ _ | refine Below.trans ?_ (Below.mono (by assumption) ?_) | (simp; done) | (simp; omega) | omega)))) (by omega) (by first | assumption | exact Rds.below hy (by (repeat' (first | exact Below.refl _ _ | assumption | refine Below.setCell ?_ ?_ _ | refine Below.drew ?_ | refine Below.alloc ?_ ?_ _ | refine Below.trans ?_ (Below.mono (by assumption) ?_) | (simp; done) | (simp; omega) | omega)))) (by omega) (by first | assumption | exact Rds.below hr (by (repeat' (first | exact Below.refl _ _ | assumption | refine Below.setCell ?_ ?_ _ | refine Below.drew ?_ | refine Below.alloc ?_ ?_ _ | refine Below.trans ?_ (Below.mono (by assumption) ?_) | (simp; done) | (simp; omega) | omega)))) (by omega)).mono ?_; rintro e w' ⟨rfl, hb⟩; have hc := cellOf hb; have hf := frozOf hb; have hz := sizeOf hb; try simp at hz)) | (go_at_call 55; refine (c_spec_l12Cost _ _ _ _ fs _ _ ps _ _ pl _ _ (by first | assumption | exact Rds.below hx (by (repeat' (first | exact Below.refl _ _ | assumption | refine Below.setCell ?_ ?_ _ | refine Below.drew ?_ | refine Below.alloc ?_ ?_ _ | refine Below.trans ?_ (Below.mono (by assumption) ?_) | (simp; done) | (simp; omega) | omega)))) (by omega) (by first | assumption | exact Rds.below hy (by (repeat' (first | exact Below.refl _ _ | assumption | refine Below.setCell ?_ ?_ _ | refine Below.drew ?_ | refine Below.alloc ?_ ?_ _ | refine Below.trans ?_ (Below.mono (by assumption) ?_) | (simp; done) | (simp; omega) | omega)))) (by omega) (by first | assumption | exact Rds.below hr (by (repeat' (first | exact Below.refl _ _ | assumption | refine Below.setCell ?_ ?_ _ | refine Below.drew ?_ | refine Below.alloc ?_ ?_ _ | refine Below.trans ?_ (Below.mono (by assumption) ?_) | (simp; done) | (simp; omega) | omega)))) (by omega) hpu (by omega) hbt).mono ?_; rintro e w' ⟨rfl, hb⟩; have hc := cellOf hb; have hf := frozOf hb; have hz := sizeOf hb; try simp at hz))
  go_ret2
  exact ⟨by first | (rw [HV.out]; done) | (rw [HV.out]; rfl), by (repeat' (first | exact Below.refl _ _ | assumption | refine Below.setCell ?_ ?_ _ | refine Below.drew ?_ | refine Below.alloc ?_ ?_ _ | refine Below.trans ?_ (Below.mono (by assumption) ?_) | (simp; done) | (simp; omega) | omega))⟩

end Go.Proofs.Ytpaclngjmdacjaa
namespace Go.Proofs.Ytpaclngjmdacjaa
set_option linter.unusedSimpArgs false
set_option linter.unusedVariables false
open Go.RowKit

set_option maxRecDepth 100000 in
set_option maxHeartbeats 8000000 in
theorem c_spec_l12Best0 (l h v : Int) (A : Option Addr) (fs : List Int) (capf : Nat) (B : Option Addr) (ps : List (Int × Int × Int)) (capq : Nat) (C : Option Addr) (pl : List Int) (capp G : Nat) (w : World) (hx : Rds cIn 1 w A fs) (hn : fs.length ≤ 9223372036854775807) (hy : Rds cPu 3 w B ps) (hm : ps.length ≤ 9223372036854775807) (hg : FreshA cIn 1 3 G w C capp pl) (hG : G ≤ w.heap.size) (hf5 : fs.length ≤ 5) (hpl : pl.length = fs.length) (hv : 0 ≤ v ∧ v ≤ 500) (hfl : ∀ k (hk : k < fs.length), -50 ≤ fs[k] ∧ fs[k] ≤ 50) (hpu : ∀ k (hk : k < ps.length), puOk ps[k] = true) (hn2 : ps.length ≤ 2) (hbt : ∀ k (hk : k < pl.length), 0 ≤ pl[k] ∧ pl[k] ≤ 3) :
    Calls Try.prog 67 #[.agg #[.int .i64 l, .int .i64 h, .int .i64 v, .slice A fs.length capf, .slice B ps.length capq], .slice C pl.length capp] w fun e w' => ∃ A' cap', e = .returned (.tuple #[.slice A' (bestP l h v fs ps 0 pl).1.length cap', .int .i64 (bestP l h v fs ps 0 pl).2]) ∧ FreshA cIn 1 3 G w' A' cap' (bestP l h v fs ps 0 pl).1 ∧ Below w.heap.size w w' := by
  have hr := hg.rds
  have hnr : pl.length ≤ 5 := by omega
  have hl1 : pl.length ≤ fs.length := by omega
  have hl2 : fs.length ≤ pl.length := by omega
  have HO := hid hg
  clear hg hpl
  by_cases hb0 : badP l h v fs ps pl = true
  · have HV := hid (bestP_bad 0 pl hb0)
    have hix := (badP_idx pl).2 hb0
    clear hb0
    go_enter Try.func67, Try.ntmps67
    go_wp2_with (go_at_call 56; refine (c_spec_l12Unsafe _ _ _ _ fs _ _ ps _ _ pl _ _ (by first | assumption | exact Rds.below hx (by (repeat' (first | exact Below.refl _ _ | assumption | refine Below.setCell ?_ ?_ _ | refine Below.drew ?_ | refine Below.alloc ?_ ?_ _ | refine Below.trans ?_ (Below.mono (by assumption) ?_) | (simp; done) | (simp; omega) | omega)))) (by omega) (by first | assumption | exact Rds.below hy (by (repeat' (first | exact Below.refl _ _ | assumption | refine Below.setCell ?_ ?_ _ | refine Below.drew ?_ | refine Below.alloc ?_ ?_ _ | refine Below.trans ?_ (Below.mono (by assumption) ?_) | (simp; done) | (simp; omega) | omega)))) (by omega) (by first | assumption | exact Rds.below hr (by (repeat' (first | exact Below.refl _ _ | assumption | refine Below.setCell ?_ ?_ _ | refine Below.drew ?_ | refine Below.alloc ?_ ?_ _ | refine Below.trans ?_ (Below.mono (by assumption) ?_) | (simp; done) | (simp; omega) | omega)))) (by omega) (by omega) hfl hpu (by omega) (by omega) hbt).mono ?_; rintro e w' ⟨rfl, hb⟩; have hc := cellOf hb; have hf := frozOf hb; have hz := sizeOf hb; try simp at hz)
    go_ret2
    simp only [HV.out]
    exact ⟨_, _, rfl, FreshA.new (by first | omega | (simp at *; omega)), by (repeat' (first | exact Below.refl _ _ | assumption | refine Below.setCell ?_ ?_ _ | refine Below.drew ?_ | refine Below.alloc ?_ ?_ _ | refine Below.trans ?_ (Below.mono (by assumption) ?_) | (simp; done) | (simp; omega) | omega))⟩
  · have HV := hid (bestP_leaf pl (Bool.eq_false_iff.2 hb0))
    have hix : ¬ 0 ≤ idxF (outL l h) (levsTo v fs pl ps pl.length) := fun e => hb0 ((badP_idx pl).1 e)
    clear hb0
    go_enter Try.func67, Try.ntmps67
    go_wp2_with (first | (go_at_call 56; refine (c_spec_l12Unsafe _ _ _ _ fs _ _ ps _ _ pl _ _ (by first | assumption | exact Rds.below hx (by (repeat' (first | exact Below.refl _ _ | assumption | refine Below.setCell ?_ ?_ _ | refine Below.drew ?_ | refine Below.alloc ?_ ?_ _ | refine Below.trans ?_ (Below.mono (by assumption) ?_) | (simp; done) | (simp; omega) | omega)))) (by omega) (by first | assumption | exact Rds.below hy (by (repeat' (first | exact Below.refl _ _ | assumption | refine Below.setCell ?_ ?_ _ | refine Below.drew ?_ | refine Below.alloc ?_ ?_ _ | refine Below.trans ?_ (Below.mono (by assumption) ?_) | (simp; done) | (simp; omega) | omega)))) (by omega) (by first | assumption | exact Rds.below hr (by (repeat' (first | exact Below.refl _ _ | assumption | refine Below.setCell ?_ ?_ _ | refine Below.drew ?_ | refine Below.alloc ?_ ?_ _ | refine Below.trans ?_ (Below.mono (by assumption) ?_) | (simp; done) | (simp; omega) | omega)))) (by omega) (by omega) hfl hpu (by omega) (by omega) hbt).mono ?_; rintro e w' ⟨rfl, hb⟩; have hc := cellOf hb; have hf := frozOf hb; have hz := sizeOf hb; try simp at hz) | (go_at_call 55; refine (c_spec_l12Cost _ _ _ _ fs _ _ ps _ _ pl _ _ (by first | assumption | exact Rds.below hx (by (repeat' (first | exact Below.refl _ _ | assumption | refine Below.setCell ?_ ?_ _ | refine Below.drew ?_ | refine Below.alloc ?_ ?_ _ | refine Below.trans ?_ (Below.mono (by assumption) ?_) | (simp; done) | (simp; omega) | omega)))) (by omega) (by first | assumption | exact Rds.below hy (by (repeat' (first | exact Below.refl _ _ | assumption | refine Below.setCell ?_ ?_ _ | refine Below.drew ?_ | refine Below.alloc ?_ ?_ _ | refine Below.trans ?_ (Below.mono (by assumption) ?_) | (simp; done) | (simp; omega) | omega)))) (by omega) (by first | assumption | exact Rds.below hr (by (repeat' (first | exact Below.refl _ _ | assumption | refine Below.setCell ?_ ?_ _ | refine Below.drew ?_ | refine Below.alloc ?_ ?_ _ | refine Below.trans ?_ (Below.mono (by assumption) ?_) | (simp; done) | (simp; omega) | omega)))) (by omega) hpu (by omega) hbt).mono ?_; rintro e w' ⟨rfl, hb⟩; have hc := cellOf hb; have hf := frozOf hb; have hz := sizeOf hb; try simp at hz))
    go_ret2
    simp only [HV.out]
    exact ⟨_, _, rfl, HO.out.below (by (repeat' (first | exact Below.refl _ _ | assumption | refine Below.setCell ?_ ?_ _ | refine Below.drew ?_ | refine Below.alloc ?_ ?_ _ | refine Below.trans ?_ (Below.mono (by assumption) ?_) | (simp; done) | (simp; omega) | omega))), by (repeat' (first | exact Below.refl _ _ | assumption | refine Below.setCell ?_ ?_ _ | refine Below.drew ?_ | refine Below.alloc ?_ ?_ _ | refine Below.trans ?_ (Below.mono (by assumption) ?_) | (simp; done) | (simp; omega) | omega))⟩

end Go.Proofs.Ytpaclngjmdacjaa
namespace Go.Proofs.Ytpaclngjmdacjaa
set_option linter.unusedSimpArgs false
set_option linter.unusedVariables false
open Go.RowKit

set_option maxRecDepth 100000 in
set_option maxHeartbeats 16000000 in
theorem c_impl_carriedOut (l h v : Int) (A : Option Addr) (fs : List Int) (capf : Nat) (B : Option Addr) (ps : List (Int × Int × Int)) (capq : Nat) (C : Option Addr) (pl : List Int) (capp : Nat) (w : World) (hx : Rds cIn 1 w A fs) (hn : fs.length ≤ 9223372036854775807) (hy : Rds cPu 3 w B ps) (hm : ps.length ≤ 9223372036854775807) (hr : Rds cIn 1 w C pl) (hnr : pl.length ≤ 5) (hv : 0 ≤ v ∧ v ≤ 500) (hfl : ∀ k (hk : k < fs.length), -50 ≤ fs[k] ∧ fs[k] ≤ 50) (hpu : ∀ k (hk : k < ps.length), puOk ps[k] = true) (hn2 : ps.length ≤ 2) (hl1 : pl.length ≤ fs.length) (hbt : ∀ k (hk : k < pl.length), 0 ≤ pl[k] ∧ pl[k] ≤ 3) :
    Calls Try.prog 53 #[.agg #[.int .i64 l, .int .i64 h, .int .i64 v, .slice A fs.length capf, .slice B ps.length capq], .slice C pl.length capp] w fun e w' => ∃ A' cap', e = .returned (.agg #[.slice A' pl.length cap', .int .i64 (payTo pl ps pl.length), .int .i64 (startsTo pl ps pl.length), .int .i64 (pumpTo pl ps pl.length)]) ∧ FreshA cIn 1 3 w.heap.size w' A' cap' (levsTo v fs pl ps pl.length) ∧ Below w.heap.size w w' := by
  obtain ⟨i0, hI0, hI1, hI2, hI3⟩ := info_parts info_In
  go_enter Try.func53, Try.ntmps53
  go_wp2_with (fail)
  go_region
  all_goals go_wp2_with (fail)
  · go_loopw [6, 7, 18] (fun lev bef i wr => ∃ (k : Nat) (A' : Option Addr) (cp : Nat), k ≤ pl.length ∧ i = .int .i64 k ∧ w.heap.size + 4 ≤ wr.heap.size ∧ lev = .int .i64 (levTo v fs pl ps k) ∧ bef = .int .i64 (befB pl k)
      ∧ FreshA cIn 1 3 (w.heap.size + 2) wr A' cp (levsTo v fs pl ps k) ∧ NeB (w.heap.size + 3) A'
      ∧ wr.cell? ⟨w.heap.size + 3, 0, none⟩ = some (.slice A' k cp) ∧ wr.cell? ⟨w.heap.size + 3, 1, none⟩ = some (.int .i64 (payTo pl ps k)) ∧ wr.cell? ⟨w.heap.size + 3, 2, none⟩ = some (.int .i64 (startsTo pl ps k)) ∧ wr.cell? ⟨w.heap.size + 3, 3, none⟩ = some (.int .i64 (pumpTo pl ps k)) ∧ (∀ o, wr.frozen? ⟨w.heap.size + 3, o, none⟩ = false)
      ∧ wr.cell? ⟨w.heap.size, 0, none⟩ = some (.int .i64 l) ∧ wr.cell? ⟨w.heap.size, 1, none⟩ = some (.int .i64 h) ∧ wr.cell? ⟨w.heap.size, 2, none⟩ = some (.int .i64 v) ∧ wr.cell? ⟨w.heap.size, 3, none⟩ = some (.slice A fs.length capf) ∧ wr.cell? ⟨w.heap.size, 4, none⟩ = some (.slice B ps.length capq) ∧ w.heap.size + 1 ≤ wr.heap.size ∧ (∀ o, wr.frozen? ⟨w.heap.size + 1, o, none⟩ = false) ∧ (∃ z0 z1 z2 z3, wr.cell? ⟨w.heap.size + 1, 0, none⟩ = some z0 ∧ wr.cell? ⟨w.heap.size + 1, 1, none⟩ = some z1 ∧ wr.cell? ⟨w.heap.size + 1, 2, none⟩ = some z2 ∧ wr.cell? ⟨w.heap.size + 1, 3, none⟩ = some z3) ∧ Below w.heap.size w wr) (fun _ _ i _ => pl.length - (intOf i).toNat)
    case atStart =>
      refine ⟨0, some ⟨w.heap.size + 2, 0, none⟩, 0, Nat.zero_le _, rfl, by first | (simp; done) | (simp; omega), rfl, rfl, FreshA.mk0 ?_ (by first | omega | (simp; done) | (simp; omega)), NeB.mk0 (by first | omega | (simp; done) | (simp; omega)), ?_, ?_, ?_, ?_, ?_, ?_, ?_, ?_, ?_, ?_, ?_, ?_, ⟨.slice none 0 0, .int .i64 0, .int .i64 0, .int .i64 0, ?_, ?_, ?_, ?_⟩, by (repeat' (first | exact Below.refl _ _ | assumption | refine Below.setCell ?_ ?_ _ | refine Below.drew ?_ | refine Below.alloc ?_ ?_ _ | refine Below.trans ?_ (Below.mono (by assumption) ?_) | (simp; done) | (simp; omega) | omega))⟩
      all_goals first | (simp [go_sem, ↓IntWalk.iteOmega, payTo, startsTo, pumpTo, *]; done) | (intro o; simp [go_sem, ↓IntWalk.iteOmega, *]; done) | exact row_a _ _ _ _ _ | exact row_b _ _ _ _ _ | (simp at *; omega)
    case round =>
      obtain ⟨k, A', cp, hk, rfl, hz4, rfl, rfl, hF, hN, ho0, ho1, ho2, ho3, hof, hp0, hp1, hp2, hp3, hp4, hzz, htf, ⟨z0, z1, z2, z3, ht0, ht1, ht2, ht3⟩, hbr⟩ := hrel
      have hlo := hF.lo
      have hhi := hF.hi
      have hc := cellOf hbr
      have hf := frozOf hbr
      have hz := sizeOf hbr
      have hp0' : far _ _ _ = _ := hp0
      have hp1' : far _ _ _ = _ := hp1
      have hp2' : far _ _ _ = _ := hp2
      have hp3' : far _ _ _ = _ := hp3
      have hp4' : far _ _ _ = _ := hp4
      have ho0' : far _ _ _ = _ := ho0
      have ho1' : far _ _ _ = _ := ho1
      have ho2' : far _ _ _ = _ := ho2
      have ho3' : far _ _ _ = _ := ho3
      have ht0' : far _ _ _ = _ := ht0
      have ht1' : far _ _ _ = _ := ht1
      have ht2' : far _ _ _ = _ := ht2
      have ht3' : far _ _ _ = _ := ht3
      have hof' : ∀ o, farz _ _ o = false := hof
      have htf' : ∀ o, farz _ _ o = false := htf
      by_cases hlt : k < pl.length
      rotate_left
      · obtain rfl : k = pl.length := by omega
        go_wp2_with (fail)
        refine bodyPost_ret (v := .agg #[.slice A' pl.length cp, .int .i64 (payTo pl ps pl.length), .int .i64 (startsTo pl ps pl.length), .int .i64 (pumpTo pl ps pl.length)]) ?_ rfl ⟨A', cp, rfl, ?_, by (repeat' (first | exact Below.refl _ _ | assumption | refine Below.setCell ?_ ?_ _ | refine Below.drew ?_ | refine Below.alloc ?_ ?_ _ | refine Below.trans ?_ (Below.mono (by assumption) ?_) | (simp; done) | (simp; omega) | omega))⟩
        · simp [results, Try.results53, go_sem, ↓IntWalk.iteOmega, *]
        · refine FreshA.mono (B := w.heap.size + 2) ?_ (by omega)
          repeat' (refine FreshA.set_low ?_ (by show w.heap.size + 1 < w.heap.size + 2; omega) _)
          exact hF
      have hltf : k < fs.length := by omega
      obtain ⟨bx, ox, rfl, hbx, hcx⟩ := hr k pl[k] (List.getElem?_eq_getElem hlt)
      obtain ⟨bf, of_, rfl, hbf, hcf⟩ := hx k fs[k] (List.getElem?_eq_getElem hltf)
      have hx0 := hcx 0 _ rfl
      have hf0 := hcf 0 _ rfl
      simp only [Nat.add_zero, Nat.mul_one] at hx0 hf0
      have hxb := hbt k hlt
      have hfb := hfl k hltf
      have hbb := befB_bd hbt k hk
      have hlb := levTo_bd hv hfl hpu hn2 hl1 k hk
      have hmb := pumpTo_bd (pl := pl) hpu hn2 k hk
      have hyb := payTo_bd (pl := pl) hpu hn2 k hk
      have hsb := startsTo_bd (pl := pl) (ps := ps) hn2 k hk
      have HL1 := hid (levTo_succ (v := v) (ps := ps) k hlt hltf)
      have HM1 := hid (pumpTo_succ (ps := ps) k hlt)
      have HY1 := hid (payTo_succ (ps := ps) k hlt)
      have HS1 := hid (startsTo_succ (ps := ps) k hlt)
      have HB1 := hid (befB_succ hlt)
      have HLS := hid (levsTo_succ (v := v) (fs := fs) (pl := pl) (ps := ps) k)
      have HLL := hid (levsTo_len (v := v) (fs := fs) (pl := pl) (ps := ps) k)
      have HOB := hid (fun x => outTo_bd hpu x)
      have HCB := hid (fun b x => costTo_bd hpu b x)
      have HSB := hid (fun b x => startTo_bd (ps := ps) b x)
      have HF := hid hF
      have HN := hid hN
      have HBT := hid hbt
      have HFL := hid hfl
      clear hcx hcf hr hx hF hN hbt hfl
      obtain ⟨x, hxk⟩ : ∃ x, x = pl[k] := ⟨_, rfl⟩
      obtain ⟨f, hfk⟩ : ∃ f, f = fs[k] := ⟨_, rfl⟩
      simp only [← hxk] at hx0 hxb HL1 HM1 HY1 HS1 HB1
      simp only [← hfk] at hf0 hfb HL1
      clear hxk hfk
      generalize befB pl k = b at *
      generalize levTo v fs pl ps k = lv at *
      generalize pumpTo pl ps k = pm at *
      generalize payTo pl ps k = py at *
      generalize startsTo pl ps k = st at *
      go_wp2_with (fail)
      go_loopw [6, 33] (fun lev i wv => ∃ q : Nat, q ≤ ps.length ∧ i = .int .i64 q ∧ lev = .int .i64 (lv + f - outTo ps x q) ∧ w.heap.size + 4 ≤ wv.heap.size
        ∧ FreshA cIn 1 3 (w.heap.size + 2) wv A' cp (levsTo v fs pl ps k)
        ∧ wv.cell? ⟨w.heap.size + 3, 0, none⟩ = some (.slice A' k cp) ∧ wv.cell? ⟨w.heap.size + 3, 1, none⟩ = some (.int .i64 (py + costTo ps b x q)) ∧ wv.cell? ⟨w.heap.size + 3, 2, none⟩ = some (.int .i64 (st + startTo ps b x q)) ∧ wv.cell? ⟨w.heap.size + 3, 3, none⟩ = some (.int .i64 (pm + outTo ps x q)) ∧ (∀ o, wv.frozen? ⟨w.heap.size + 3, o, none⟩ = false)
        ∧ wv.cell? ⟨w.heap.size, 0, none⟩ = some (.int .i64 l) ∧ wv.cell? ⟨w.heap.size, 1, none⟩ = some (.int .i64 h) ∧ wv.cell? ⟨w.heap.size, 2, none⟩ = some (.int .i64 v) ∧ wv.cell? ⟨w.heap.size, 3, none⟩ = some (.slice (some ⟨bf, of_, none⟩) fs.length capf) ∧ wv.cell? ⟨w.heap.size, 4, none⟩ = some (.slice B ps.length capq) ∧ w.heap.size + 1 ≤ wv.heap.size ∧ (∀ o, wv.frozen? ⟨w.heap.size + 1, o, none⟩ = false) ∧ (∃ z0 z1 z2 z3, wv.cell? ⟨w.heap.size + 1, 0, none⟩ = some z0 ∧ wv.cell? ⟨w.heap.size + 1, 1, none⟩ = some z1 ∧ wv.cell? ⟨w.heap.size + 1, 2, none⟩ = some z2 ∧ wv.cell? ⟨w.heap.size + 1, 3, none⟩ = some z3) ∧ Below w.heap.size w wv) (fun _ i _ => ps.length - (intOf i).toNat)
      case atStart =>
        refine ⟨0, Nat.zero_le _, rfl, by simp [outTo], hz4, HF.out, ?_, ?_, ?_, ?_, ?_, ?_, ?_, ?_, ?_, ?_, ?_, ?_, ⟨z0, z1, z2, z3, ?_, ?_, ?_, ?_⟩, hbr⟩
        all_goals first | assumption | (simp [costTo, startTo, outTo, *]; done) | (simp [go_sem, ↓IntWalk.iteOmega, costTo, startTo, outTo, *]; done)
      case round =>
        obtain ⟨q, hq, rfl, rfl, hz4', hF, ho0, ho1, ho2, ho3, hof, hp0, hp1, hp2, hp3, hp4, hzz, htf, ⟨y0, y1, y2, y3, ht0, ht1, ht2, ht3⟩, hbv⟩ := hrel
        have hlo := hF.lo
        have hhi := hF.hi
        clear hc hf hz hz4 hp0' hp1' hp2' hp3' hp4' ho0' ho1' ho2' ho3' ht0' ht1' ht2' ht3' hof' htf'
        have hc := cellOf hbv
        have hf := frozOf hbv
        have hz := sizeOf hbv
        have hp0' : far _ _ _ = _ := hp0
        have hp1' : far _ _ _ = _ := hp1
        have hp2' : far _ _ _ = _ := hp2
        have hp3' : far _ _ _ = _ := hp3
        have hp4' : far _ _ _ = _ := hp4
        have ho0' : far _ _ _ = _ := ho0
        have ho1' : far _ _ _ = _ := ho1
        have ho2' : far _ _ _ = _ := ho2
        have ho3' : far _ _ _ = _ := ho3
        have ht0' : far _ _ _ = _ := ht0
        have ht1' : far _ _ _ = _ := ht1
        have ht2' : far _ _ _ = _ := ht2
        have ht3' : far _ _ _ = _ := ht3
        have hof' : ∀ o, farz _ _ o = false := hof
        have htf' : ∀ o, farz _ _ o = false := htf
        have hob := HOB.out x q hq
        have hcb := HCB.out b x q hq
        have hstb := HSB.out b x q hq
        by_cases hqp : q < ps.length
        · obtain ⟨bp, op_, rfl, hbp, hcp⟩ := hy q ps[q] (List.getElem?_eq_getElem hqp)
          have hg0 := hcp 0 _ rfl
          have hg1 := hcp 1 _ rfl
          have hg2 := hcp 2 _ rfl
          simp only [Nat.add_zero] at hg0
          have hgb := puOk_bd (hpu q hqp)
          have HO1 := hid (outTo_succ x q hqp)
          have HC1 := hid (costTo_succ b x q hqp)
          have HT1 := hid (startTo_succ b x q hqp)
          have HF2 := hid hF
          have hbx1 := bits_and hxb (q := q) (by omega)
          have hbx2 := bits_and hbb (q := q) (by omega)
          clear hcp hy hF
          generalize ps[q] = g at *
          generalize outTo ps x q = ot at *
          generalize costTo ps b x q = ct at *
          generalize startTo ps b x q = sst at *
          by_cases h1 : bitB x q = true
          rotate_left
          · rw [if_neg h1] at hbx1 HO1 HC1 HT1
            clear hbx2
            go_wp2_with (fail)
            go_roundw
            case rel =>
              refine ⟨q + 1, by omega, by go_num, by rw [HO1.out]; simp, ?_, HF2.out.below (by (repeat' (first | exact Below.refl _ _ | assumption | refine Below.setCell ?_ ?_ _ | refine Below.drew ?_ | refine Below.alloc ?_ ?_ _ | refine Below.trans ?_ (Below.mono (by assumption) ?_) | (simp; done) | (simp; omega) | omega))), ?_, ?_, ?_, ?_, ?_, ?_, ?_, ?_, ?_, ?_, ?_, ?_, ⟨y0, y1, y2, y3, ?_, ?_, ?_, ?_⟩, by (repeat' (first | exact Below.refl _ _ | assumption | refine Below.setCell ?_ ?_ _ | refine Below.drew ?_ | refine Below.alloc ?_ ?_ _ | refine Below.trans ?_ (Below.mono (by assumption) ?_) | (simp; done) | (simp; omega) | omega))⟩
              all_goals first | (simp [go_sem, ↓IntWalk.iteOmega, HO1.out, HC1.out, HT1.out, *]; done) | (simp; omega) | (intro o; simp [go_sem, ↓IntWalk.iteOmega, *]; done)
            case measure => simp [intOf]; omega
          rw [if_pos h1] at hbx1 HO1 HC1 HT1
          by_cases h2 : bitB b q = true
          · rw [if_pos h2] at hbx2 HC1 HT1
            go_wp2_with (fail)
            go_roundw
            case rel =>
              refine ⟨q + 1, by omega, by go_num, by rw [HO1.out]; exact int_eq (by omega), ?_, ?_, ?_, ?_, ?_, ?_, ?_, ?_, ?_, ?_, ?_, ?_, ?_, ?_, ⟨y0, y1, y2, y3, ?_, ?_, ?_, ?_⟩, by (repeat' (first | exact Below.refl _ _ | assumption | refine Below.setCell ?_ ?_ _ | refine Below.drew ?_ | refine Below.alloc ?_ ?_ _ | refine Below.trans ?_ (Below.mono (by assumption) ?_) | (simp; done) | (simp; omega) | omega))⟩
              rotate_left 1
              · repeat' (refine FreshA.set_ne ?_ HN.out _ _)
                exact HF2.out.below (by (repeat' (first | exact Below.refl _ _ | assumption | refine Below.setCell ?_ ?_ _ | refine Below.drew ?_ | refine Below.alloc ?_ ?_ _ | refine Below.trans ?_ (Below.mono (by assumption) ?_) | (simp; done) | (simp; omega) | omega)))
              all_goals first | (simp [go_sem, ↓IntWalk.iteOmega, HO1.out, HC1.out, HT1.out, *]; done) | (simp [go_sem, ↓IntWalk.iteOmega, HO1.out, HC1.out, HT1.out, *]; omega) | (simp; omega) | (intro o; simp [go_sem, ↓IntWalk.iteOmega, *]; done)
            case measure => simp [intOf]; omega
          · rw [if_neg h2] at hbx2 HC1 HT1
            go_wp2_with (fail)
            go_roundw
            case rel =>
              refine ⟨q + 1, by omega, by go_num, by rw [HO1.out]; exact int_eq (by omega), ?_, ?_, ?_, ?_, ?_, ?_, ?_, ?_, ?_, ?_, ?_, ?_, ?_, ?_, ⟨y0, y1, y2, y3, ?_, ?_, ?_, ?_⟩, by (repeat' (first | exact Below.refl _ _ | assumption | refine Below.setCell ?_ ?_ _ | refine Below.drew ?_ | refine Below.alloc ?_ ?_ _ | refine Below.trans ?_ (Below.mono (by assumption) ?_) | (simp; done) | (simp; omega) | omega))⟩
              rotate_left 1
              · repeat' (refine FreshA.set_ne ?_ HN.out _ _)
                exact HF2.out.below (by (repeat' (first | exact Below.refl _ _ | assumption | refine Below.setCell ?_ ?_ _ | refine Below.drew ?_ | refine Below.alloc ?_ ?_ _ | refine Below.trans ?_ (Below.mono (by assumption) ?_) | (simp; done) | (simp; omega) | omega)))
              all_goals first | (simp [go_sem, ↓IntWalk.iteOmega, HO1.out, HC1.out, HT1.out, *]; done) | (simp [go_sem, ↓IntWalk.iteOmega, HO1.out, HC1.out, HT1.out, *]; omega) | (simp; omega) | (intro o; simp [go_sem, ↓IntWalk.iteOmega, *]; done)
            case measure => simp [intOf]; omega
        · obtain rfl : q = ps.length := by omega
          have HF2 := hid hF
          have HLS2 := hid (HLS.out.trans (by rw [HL1.out]))
          clear hF hp3' hp4'
          generalize outTo ps x ps.length = ot at *
          generalize costTo ps b x ps.length = ct at *
          generalize startTo ps b x ps.length = sst at *
          have hN3 := HN.out
          have HN3 := hid hN3
          clear hN3
          go_wp2_with (at_builtin; refine wpList_push rfl (.tmp 77) (.tmp 79) 22 rfl 3 i0 _ 1 8 Try.underlying22 hI0 hI1 hI2 hI3 rfl (by decide) (fun _ => rfl) one_In ((w.heap.size + 2)) A' k cp ((levsTo v fs pl ps k)) HLL.out rfl (HF2.out.below (by (repeat' (first | exact Below.refl _ _ | assumption | refine Below.setCell ?_ ?_ _ | refine Below.drew ?_ | refine Below.alloc ?_ ?_ _ | refine Below.trans ?_ (Below.mono (by assumption) ?_) | (simp; done) | (simp; omega) | omega)))) ((lv + f - ot)) _ 1 rfl ?_ ?_ ?_ ?_ ?_; (refine news_In _ _ _ ?_ <;> simp [go_sem, ↓IntWalk.iteOmega]); (unfold maxLen; omega); omega; (simp; omega); intro A3 cp3 w3 hF3 hg3 hat3; have hc3 := fun o => HN3.out.cell hg3 (by first | (simp; done) | (simp; omega)) o; have hf3 := fun o => HN3.out.frozen hg3 (by first | (simp; done) | (simp; omega)) o; have hbb3 := below_of_grown (B := w.heap.size + 2) hg3 hlo (by first | (simp; done) | (simp; omega)); have hc4 : ∀ o, w3.cell? ⟨w.heap.size, o, none⟩ = _ := fun o => hbb3.cell (p := ⟨w.heap.size, o, none⟩) (by show w.heap.size < w.heap.size + 2; omega); have hc5 : ∀ o, w3.cell? ⟨w.heap.size + 1, o, none⟩ = _ := fun o => hbb3.cell (p := ⟨w.heap.size + 1, o, none⟩) (by show w.heap.size + 1 < w.heap.size + 2; omega); have hf5 : ∀ o, w3.frozen? ⟨w.heap.size + 1, o, none⟩ = _ := fun o => hbb3.frozen (p := ⟨w.heap.size + 1, o, none⟩) (by show w.heap.size + 1 < w.heap.size + 2; omega); have hs3 := hg3.size; (try simp at hs3); have hb3 := below_of_grown (B := w.heap.size) hg3 (hlo.mono (by omega)) (by simp; omega))
          go_roundw
          case rel =>
            refine ⟨k + 1, A3, cp3, by omega, by go_num, ?_, by rw [HL1.out], by rw [HB1.out], ?_, HN3.out.next hat3 (by first | (simp; done) | (simp; omega)), ?_, ?_, ?_, ?_, ?_, ?_, ?_, ?_, ?_, ?_, ?_, ?_, ⟨y0, y1, y2, y3, ?_, ?_, ?_, ?_⟩, by (repeat' (first | exact Below.refl _ _ | assumption | refine Below.setCell ?_ ?_ _ | refine Below.drew ?_ | refine Below.alloc ?_ ?_ _ | refine Below.trans ?_ (Below.mono (by assumption) ?_) | (simp; done) | (simp; omega) | omega))⟩
            rotate_left 1
            · refine FreshA.set_ne ?_ (HN3.out.next hat3 (by first | (simp; done) | (simp; omega))) _ _
              rw [HLS2.out]
              exact hF3
            all_goals first | (simp [go_sem, ↓IntWalk.iteOmega, HM1.out, HY1.out, HS1.out, *]; done) | (simp [go_sem, ↓IntWalk.iteOmega, HM1.out, HY1.out, HS1.out, *]; omega) | (simp; omega) | (intro o; simp [go_sem, ↓IntWalk.iteOmega, *]; done)
          case measure => simp [intOf]; omega
  · go_loopw [6, 7, 18] (fun lev bef i wr => ∃ (k : Nat) (A' : Option Addr) (cp : Nat), k ≤ pl.length ∧ i = .int .i64 k ∧ w.heap.size + 4 ≤ wr.heap.size ∧ lev = .int .i64 (levTo v fs pl ps k) ∧ bef = .int .i64 (befB pl k)
      ∧ FreshA cIn 1 3 (w.heap.size + 2) wr A' cp (levsTo v fs pl ps k) ∧ NeB (w.heap.size + 2) A'
      ∧ wr.cell? ⟨w.heap.size + 2, 0, none⟩ = some (.slice A' k cp) ∧ wr.cell? ⟨w.heap.size + 2, 1, none⟩ = some (.int .i64 (payTo pl ps k)) ∧ wr.cell? ⟨w.heap.size + 2, 2, none⟩ = some (.int .i64 (startsTo pl ps k)) ∧ wr.cell? ⟨w.heap.size + 2, 3, none⟩ = some (.int .i64 (pumpTo pl ps k)) ∧ (∀ o, wr.frozen? ⟨w.heap.size + 2, o, none⟩ = false)
      ∧ wr.cell? ⟨w.heap.size, 0, none⟩ = some (.int .i64 l) ∧ wr.cell? ⟨w.heap.size, 1, none⟩ = some (.int .i64 h) ∧ wr.cell? ⟨w.heap.size, 2, none⟩ = some (.int .i64 v) ∧ wr.cell? ⟨w.heap.size, 3, none⟩ = some (.slice A fs.length capf) ∧ wr.cell? ⟨w.heap.size, 4, none⟩ = some (.slice B ps.length capq) ∧ w.heap.size + 1 ≤ wr.heap.size ∧ (∀ o, wr.frozen? ⟨w.heap.size + 1, o, none⟩ = false) ∧ (∃ z0 z1 z2 z3, wr.cell? ⟨w.heap.size + 1, 0, none⟩ = some z0 ∧ wr.cell? ⟨w.heap.size + 1, 1, none⟩ = some z1 ∧ wr.cell? ⟨w.heap.size + 1, 2, none⟩ = some z2 ∧ wr.cell? ⟨w.heap.size + 1, 3, none⟩ = some z3) ∧ Below w.heap.size w wr) (fun _ _ i _ => pl.length - (intOf i).toNat)
    case atStart =>
      refine ⟨0, some ⟨w.heap.size + 3, 0, none⟩, 0, Nat.zero_le _, rfl, by first | (simp; done) | (simp; omega), rfl, rfl, FreshA.mk0 ?_ (by first | omega | (simp; done) | (simp; omega)), NeB.mk0 (by first | omega | (simp; done) | (simp; omega)), ?_, ?_, ?_, ?_, ?_, ?_, ?_, ?_, ?_, ?_, ?_, ?_, ⟨.slice none 0 0, .int .i64 0, .int .i64 0, .int .i64 0, ?_, ?_, ?_, ?_⟩, by (repeat' (first | exact Below.refl _ _ | assumption | refine Below.setCell ?_ ?_ _ | refine Below.drew ?_ | refine Below.alloc ?_ ?_ _ | refine Below.trans ?_ (Below.mono (by assumption) ?_) | (simp; done) | (simp; omega) | omega))⟩
      all_goals first | (simp [go_sem, ↓IntWalk.iteOmega, payTo, startsTo, pumpTo, *]; done) | (intro o; simp [go_sem, ↓IntWalk.iteOmega, *]; done) | exact row_a _ _ _ _ _ | exact row_b _ _ _ _ _ | (simp at *; omega)
    case round =>
      obtain ⟨k, A', cp, hk, rfl, hz4, rfl, rfl, hF, hN, ho0, ho1, ho2, ho3, hof, hp0, hp1, hp2, hp3, hp4, hzz, htf, ⟨z0, z1, z2, z3, ht0, ht1, ht2, ht3⟩, hbr⟩ := hrel
      have hlo := hF.lo
      have hhi := hF.hi
      have hc := cellOf hbr
      have hf := frozOf hbr
      have hz := sizeOf hbr
      have hp0' : far _ _ _ = _ := hp0
      have hp1' : far _ _ _ = _ := hp1
      have hp2' : far _ _ _ = _ := hp2
      have hp3' : far _ _ _ = _ := hp3
      have hp4' : far _ _ _ = _ := hp4
      have ho0' : far _ _ _ = _ := ho0
      have ho1' : far _ _ _ = _ := ho1
      have ho2' : far _ _ _ = _ := ho2
      have ho3' : far _ _ _ = _ := ho3
      have ht0' : far _ _ _ = _ := ht0
      have ht1' : far _ _ _ = _ := ht1
      have ht2' : far _ _ _ = _ := ht2
      have ht3' : far _ _ _ = _ := ht3
      have hof' : ∀ o, farz _ _ o = false := hof
      have htf' : ∀ o, farz _ _ o = false := htf
      by_cases hlt : k < pl.length
      rotate_left
      · obtain rfl : k = pl.length := by omega
        go_wp2_with (fail)
        refine bodyPost_ret (v := .agg #[.slice A' pl.length cp, .int .i64 (payTo pl ps pl.length), .int .i64 (startsTo pl ps pl.length), .int .i64 (pumpTo pl ps pl.length)]) ?_ rfl ⟨A', cp, rfl, ?_, by (repeat' (first | exact Below.refl _ _ | assumption | refine Below.setCell ?_ ?_ _ | refine Below.drew ?_ | refine Below.alloc ?_ ?_ _ | refine Below.trans ?_ (Below.mono (by assumption) ?_) | (simp; done) | (simp; omega) | omega))⟩
        · simp [results, Try.results53, go_sem, ↓IntWalk.iteOmega, *]
        · refine FreshA.mono (B := w.heap.size + 2) ?_ (by omega)
          repeat' (refine FreshA.set_low ?_ (by show w.heap.size + 1 < w.heap.size + 2; omega) _)
          exact hF
      have hltf : k < fs.length := by omega
      obtain ⟨bx, ox, rfl, hbx, hcx⟩ := hr k pl[k] (List.getElem?_eq_getElem hlt)
      obtain ⟨bf, of_, rfl, hbf, hcf⟩ := hx k fs[k] (List.getElem?_eq_getElem hltf)
      have hx0 := hcx 0 _ rfl
      have hf0 := hcf 0 _ rfl
      simp only [Nat.add_zero, Nat.mul_one] at hx0 hf0
      have hxb := hbt k hlt
      have hfb := hfl k hltf
      have hbb := befB_bd hbt k hk
      have hlb := levTo_bd hv hfl hpu hn2 hl1 k hk
      have hmb := pumpTo_bd (pl := pl) hpu hn2 k hk
      have hyb := payTo_bd (pl := pl) hpu hn2 k hk
      have hsb := startsTo_bd (pl := pl) (ps := ps) hn2 k hk
      have HL1 := hid (levTo_succ (v := v) (ps := ps) k hlt hltf)
      have HM1 := hid (pumpTo_succ (ps := ps) k hlt)
      have HY1 := hid (payTo_succ (ps := ps) k hlt)
      have HS1 := hid (startsTo_succ (ps := ps) k hlt)
      have HB1 := hid (befB_succ hlt)
      have HLS := hid (levsTo_succ (v := v) (fs := fs) (pl := pl) (ps := ps) k)
      have HLL := hid (levsTo_len (v := v) (fs := fs) (pl := pl) (ps := ps) k)
      have HOB := hid (fun x => outTo_bd hpu x)
      have HCB := hid (fun b x => costTo_bd hpu b x)
      have HSB := hid (fun b x => startTo_bd (ps := ps) b x)
      have HF := hid hF
      have HN := hid hN
      have HBT := hid hbt
      have HFL := hid hfl
      clear hcx hcf hr hx hF hN hbt hfl
      obtain ⟨x, hxk⟩ : ∃ x, x = pl[k] := ⟨_, rfl⟩
      obtain ⟨f, hfk⟩ : ∃ f, f = fs[k] := ⟨_, rfl⟩
      simp only [← hxk] at hx0 hxb HL1 HM1 HY1 HS1 HB1
      simp only [← hfk] at hf0 hfb HL1
      clear hxk hfk
      generalize befB pl k = b at *
      generalize levTo v fs pl ps k = lv at *
      generalize pumpTo pl ps k = pm at *
      generalize payTo pl ps k = py at *
      generalize startsTo pl ps k = st at *
      go_wp2_with (fail)
      go_loopw [6, 33] (fun lev i wv => ∃ q : Nat, q ≤ ps.length ∧ i = .int .i64 q ∧ lev = .int .i64 (lv + f - outTo ps x q) ∧ w.heap.size + 4 ≤ wv.heap.size
        ∧ FreshA cIn 1 3 (w.heap.size + 2) wv A' cp (levsTo v fs pl ps k)
        ∧ wv.cell? ⟨w.heap.size + 2, 0, none⟩ = some (.slice A' k cp) ∧ wv.cell? ⟨w.heap.size + 2, 1, none⟩ = some (.int .i64 (py + costTo ps b x q)) ∧ wv.cell? ⟨w.heap.size + 2, 2, none⟩ = some (.int .i64 (st + startTo ps b x q)) ∧ wv.cell? ⟨w.heap.size + 2, 3, none⟩ = some (.int .i64 (pm + outTo ps x q)) ∧ (∀ o, wv.frozen? ⟨w.heap.size + 2, o, none⟩ = false)
        ∧ wv.cell? ⟨w.heap.size, 0, none⟩ = some (.int .i64 l) ∧ wv.cell? ⟨w.heap.size, 1, none⟩ = some (.int .i64 h) ∧ wv.cell? ⟨w.heap.size, 2, none⟩ = some (.int .i64 v) ∧ wv.cell? ⟨w.heap.size, 3, none⟩ = some (.slice (some ⟨bf, of_, none⟩) fs.length capf) ∧ wv.cell? ⟨w.heap.size, 4, none⟩ = some (.slice B ps.length capq) ∧ w.heap.size + 1 ≤ wv.heap.size ∧ (∀ o, wv.frozen? ⟨w.heap.size + 1, o, none⟩ = false) ∧ (∃ z0 z1 z2 z3, wv.cell? ⟨w.heap.size + 1, 0, none⟩ = some z0 ∧ wv.cell? ⟨w.heap.size + 1, 1, none⟩ = some z1 ∧ wv.cell? ⟨w.heap.size + 1, 2, none⟩ = some z2 ∧ wv.cell? ⟨w.heap.size + 1, 3, none⟩ = some z3) ∧ Below w.heap.size w wv) (fun _ i _ => ps.length - (intOf i).toNat)
      case atStart =>
        refine ⟨0, Nat.zero_le _, rfl, by simp [outTo], hz4, HF.out, ?_, ?_, ?_, ?_, ?_, ?_, ?_, ?_, ?_, ?_, ?_, ?_, ⟨z0, z1, z2, z3, ?_, ?_, ?_, ?_⟩, hbr⟩
        all_goals first | assumption | (simp [costTo, startTo, outTo, *]; done) | (simp [go_sem, ↓IntWalk.iteOmega, costTo, startTo, outTo, *]; done)
      case round =>
        obtain ⟨q, hq, rfl, rfl, hz4', hF, ho0, ho1, ho2, ho3, hof, hp0, hp1, hp2, hp3, hp4, hzz, htf, ⟨y0, y1, y2, y3, ht0, ht1, ht2, ht3⟩, hbv⟩ := hrel
        have hlo := hF.lo
        have hhi := hF.hi
        clear hc hf hz hz4 hp0' hp1' hp2' hp3' hp4' ho0' ho1' ho2' ho3' ht0' ht1' ht2' ht3' hof' htf'
        have hc := cellOf hbv
        have hf := frozOf hbv
        have hz := sizeOf hbv
        have hp0' : far _ _ _ = _ := hp0
        have hp1' : far _ _ _ = _ := hp1
        have hp2' : far _ _ _ = _ := hp2
        have hp3' : far _ _ _ = _ := hp3
        have hp4' : far _ _ _ = _ := hp4
        have ho0' : far _ _ _ = _ := ho0
        have ho1' : far _ _ _ = _ := ho1
        have ho2' : far _ _ _ = _ := ho2
        have ho3' : far _ _ _ = _ := ho3
        have ht0' : far _ _ _ = _ := ht0
        have ht1' : far _ _ _ = _ := ht1
        have ht2' : far _ _ _ = _ := ht2
        have ht3' : far _ _ _ = _ := ht3
        have hof' : ∀ o, farz _ _ o = false := hof
        have htf' : ∀ o, farz _ _ o = false := htf
        have hob := HOB.out x q hq
        have hcb := HCB.out b x q hq
        have hstb := HSB.out b x q hq
        by_cases hqp : q < ps.length
        · obtain ⟨bp, op_, rfl, hbp, hcp⟩ := hy q ps[q] (List.getElem?_eq_getElem hqp)
          have hg0 := hcp 0 _ rfl
          have hg1 := hcp 1 _ rfl
          have hg2 := hcp 2 _ rfl
          simp only [Nat.add_zero] at hg0
          have hgb := puOk_bd (hpu q hqp)
          have HO1 := hid (outTo_succ x q hqp)
          have HC1 := hid (costTo_succ b x q hqp)
          have HT1 := hid (startTo_succ b x q hqp)
          have HF2 := hid hF
          have hbx1 := bits_and hxb (q := q) (by omega)
          have hbx2 := bits_and hbb (q := q) (by omega)
          clear hcp hy hF
          generalize ps[q] = g at *
          generalize outTo ps x q = ot at *
          generalize costTo ps b x q = ct at *
          generalize startTo ps b x q = sst at *
          by_cases h1 : bitB x q = true
          rotate_left
          · rw [if_neg h1] at hbx1 HO1 HC1 HT1
            clear hbx2
            go_wp2_with (fail)
            go_roundw
            case rel =>
              refine ⟨q + 1, by omega, by go_num, by rw [HO1.out]; simp, ?_, HF2.out.below (by (repeat' (first | exact Below.refl _ _ | assumption | refine Below.setCell ?_ ?_ _ | refine Below.drew ?_ | refine Below.alloc ?_ ?_ _ | refine Below.trans ?_ (Below.mono (by assumption) ?_) | (simp; done) | (simp; omega) | omega))), ?_, ?_, ?_, ?_, ?_, ?_, ?_, ?_, ?_, ?_, ?_, ?_, ⟨y0, y1, y2, y3, ?_, ?_, ?_, ?_⟩, by (repeat' (first | exact Below.refl _ _ | assumption | refine Below.setCell ?_ ?_ _ | refine Below.drew ?_ | refine Below.alloc ?_ ?_ _ | refine Below.trans ?_ (Below.mono (by assumption) ?_) | (simp; done) | (simp; omega) | omega))⟩
              all_goals first | (simp [go_sem, ↓IntWalk.iteOmega, HO1.out, HC1.out, HT1.out, *]; done) | (simp; omega) | (intro o; simp [go_sem, ↓IntWalk.iteOmega, *]; done)
            case measure => simp [intOf]; omega
          rw [if_pos h1] at hbx1 HO1 HC1 HT1
          by_cases h2 : bitB b q = true
          · rw [if_pos h2] at hbx2 HC1 HT1
            go_wp2_with (fail)
            go_roundw
            case rel =>
              refine ⟨q + 1, by omega, by go_num, by rw [HO1.out]; exact int_eq (by omega), ?_, ?_, ?_, ?_, ?_, ?_, ?_, ?_, ?_, ?_, ?_, ?_, ?_, ?_, ⟨y0, y1, y2, y3, ?_, ?_, ?_, ?_⟩, by (repeat' (first | exact Below.refl _ _ | assumption | refine Below.setCell ?_ ?_ _ | refine Below.drew ?_ | refine Below.alloc ?_ ?_ _ | refine Below.trans ?_ (Below.mono (by assumption) ?_) | (simp; done) | (simp; omega) | omega))⟩
              rotate_left 1
              · repeat' (refine FreshA.set_ne ?_ HN.out _ _)
                exact HF2.out.below (by (repeat' (first | exact Below.refl _ _ | assumption | refine Below.setCell ?_ ?_ _ | refine Below.drew ?_ | refine Below.alloc ?_ ?_ _ | refine Below.trans ?_ (Below.mono (by assumption) ?_) | (simp; done) | (simp; omega) | omega)))
              all_goals first | (simp [go_sem, ↓IntWalk.iteOmega, HO1.out, HC1.out, HT1.out, *]; done) | (simp [go_sem, ↓IntWalk.iteOmega, HO1.out, HC1.out, HT1.out, *]; omega) | (simp; omega) | (intro o; simp [go_sem, ↓IntWalk.iteOmega, *]; done)
            case measure => simp [intOf]; omega
          · rw [if_neg h2] at hbx2 HC1 HT1
            go_wp2_with (fail)
            go_roundw
            case rel =>
              refine ⟨q + 1, by omega, by go_num, by rw [HO1.out]; exact int_eq (by omega), ?_, ?_, ?_, ?_, ?_, ?_, ?_, ?_, ?_, ?_, ?_, ?_, ?_, ?_, ⟨y0, y1, y2, y3, ?_, ?_, ?_, ?_⟩, by (repeat' (first | exact Below.refl _ _ | assumption | refine Below.setCell ?_ ?_ _ | refine Below.drew ?_ | refine Below.alloc ?_ ?_ _ | refine Below.trans ?_ (Below.mono (by assumption) ?_) | (simp; done) | (simp; omega) | omega))⟩
              rotate_left 1
              · repeat' (refine FreshA.set_ne ?_ HN.out _ _)
                exact HF2.out.below (by (repeat' (first | exact Below.refl _ _ | assumption | refine Below.setCell ?_ ?_ _ | refine Below.drew ?_ | refine Below.alloc ?_ ?_ _ | refine Below.trans ?_ (Below.mono (by assumption) ?_) | (simp; done) | (simp; omega) | omega)))
              all_goals first | (simp [go_sem, ↓IntWalk.iteOmega, HO1.out, HC1.out, HT1.out, *]; done) | (simp [go_sem, ↓IntWalk.iteOmega, HO1.out, HC1.out, HT1.out, *]; omega) | (simp; omega) | (intro o; simp [go_sem, ↓IntWalk.iteOmega, *]; done)
            case measure => simp [intOf]; omega
        · obtain rfl : q = ps.length := by omega
          have HF2 := hid hF
          have HLS2 := hid (HLS.out.trans (by rw [HL1.out]))
          clear hF hp3' hp4'
          generalize outTo ps x ps.length = ot at *
          generalize costTo ps b x ps.length = ct at *
          generalize startTo ps b x ps.length = sst at *
          have hN3 := HN.out
          have HN3 := hid hN3
          clear hN3
          go_wp2_with (at_builtin; refine wpList_push rfl (.tmp 77) (.tmp 79) 22 rfl 3 i0 _ 1 8 Try.underlying22 hI0 hI1 hI2 hI3 rfl (by decide) (fun _ => rfl) one_In ((w.heap.size + 2)) A' k cp ((levsTo v fs pl ps k)) HLL.out rfl (HF2.out.below (by (repeat' (first | exact Below.refl _ _ | assumption | refine Below.setCell ?_ ?_ _ | refine Below.drew ?_ | refine Below.alloc ?_ ?_ _ | refine Below.trans ?_ (Below.mono (by assumption) ?_) | (simp; done) | (simp; omega) | omega)))) ((lv + f - ot)) _ 1 rfl ?_ ?_ ?_ ?_ ?_; (refine news_In _ _ _ ?_ <;> simp [go_sem, ↓IntWalk.iteOmega]); (unfold maxLen; omega); omega; (simp; omega); intro A3 cp3 w3 hF3 hg3 hat3; have hc3 := fun o => HN3.out.cell hg3 (by first | (simp; done) | (simp; omega)) o; have hf3 := fun o => HN3.out.frozen hg3 (by first | (simp; done) | (simp; omega)) o; have hbb3 := below_of_grown (B := w.heap.size + 2) hg3 hlo (by first | (simp; done) | (simp; omega)); have hc4 : ∀ o, w3.cell? ⟨w.heap.size, o, none⟩ = _ := fun o => hbb3.cell (p := ⟨w.heap.size, o, none⟩) (by show w.heap.size < w.heap.size + 2; omega); have hc5 : ∀ o, w3.cell? ⟨w.heap.size + 1, o, none⟩ = _ := fun o => hbb3.cell (p := ⟨w.heap.size + 1, o, none⟩) (by show w.heap.size + 1 < w.heap.size + 2; omega); have hf5 : ∀ o, w3.frozen? ⟨w.heap.size + 1, o, none⟩ = _ := fun o => hbb3.frozen (p := ⟨w.heap.size + 1, o, none⟩) (by show w.heap.size + 1 < w.heap.size + 2; omega); have hs3 := hg3.size; (try simp at hs3); have hb3 := below_of_grown (B := w.heap.size) hg3 (hlo.mono (by omega)) (by simp; omega))
          go_roundw
          case rel =>
            refine ⟨k + 1, A3, cp3, by omega, by go_num, ?_, by rw [HL1.out], by rw [HB1.out], ?_, HN3.out.next hat3 (by first | (simp; done) | (simp; omega)), ?_, ?_, ?_, ?_, ?_, ?_, ?_, ?_, ?_, ?_, ?_, ?_, ⟨y0, y1, y2, y3, ?_, ?_, ?_, ?_⟩, by (repeat' (first | exact Below.refl _ _ | assumption | refine Below.setCell ?_ ?_ _ | refine Below.drew ?_ | refine Below.alloc ?_ ?_ _ | refine Below.trans ?_ (Below.mono (by assumption) ?_) | (simp; done) | (simp; omega) | omega))⟩
            rotate_left 1
            · refine FreshA.set_ne ?_ (HN3.out.next hat3 (by first | (simp; done) | (simp; omega))) _ _
              rw [HLS2.out]
              exact hF3
            all_goals first | (simp [go_sem, ↓IntWalk.iteOmega, HM1.out, HY1.out, HS1.out, *]; done) | (simp [go_sem, ↓IntWalk.iteOmega, HM1.out, HY1.out, HS1.out, *]; omega) | (simp; omega) | (intro o; simp [go_sem, ↓IntWalk.iteOmega, *]; done)
          case measure => simp [intOf]; omega

end Go.Proofs.Ytpaclngjmdacjaa
namespace Go.Proofs.Ytpaclngjmdacjaa
set_option linter.unusedSimpArgs false
set_option linter.unusedVariables false
open Go.RowKit

set_option maxHeartbeats 400000 in
theorem c_impl_IsPumpTask_1 (x : Int) (w : World)  :
    Calls Try.prog 72 #[.int .i64 (x)] w fun e w' => e = .returned (.bool (!inB x (-50) 50)) ∧ Below w.heap.size w w' := by
  go_enter Try.func72, Try.ntmps72
  go_wp2_with (first | (go_at_call 61; refine (c_impl_inside _ _ _ _ ).mono ?_; rintro e w' ⟨rfl, hb⟩; have hc := cellOf hb; have hf := frozOf hb; have hz := sizeOf hb; try simp at hz))
  all_goals go_ret
  all_goals
    refine ⟨ret_bool ?_, ?_⟩
    · first | rfl | omega | (simp []; done) | (simp []; omega) | (simp []; (repeat' split) <;> (first | omega | (simp; done) | (simp; omega))) | (simp_all []; done) | (simp_all []; omega)
    · (repeat' (first | exact Below.refl _ _ | assumption | refine Below.setCell ?_ ?_ _ | refine Below.drew ?_ | refine Below.alloc ?_ ?_ _ | refine Below.trans ?_ (Below.mono (by assumption) ?_) | (simp; done) | (simp; omega) | omega))

set_option maxHeartbeats 2000000 in
theorem c_impl_IsPumpTask_2 (a b c : Int) (w : World)  :
    Calls Try.prog 74 #[.agg #[.int .i64 (a), .int .i64 (b), .int .i64 (c)]] w fun e w' => e = .returned (.bool (!(inB a 1 50 && inB b 0 20 && inB c 0 50))) ∧ Below w.heap.size w w' := by
  go_enter Try.func74, Try.ntmps74
  go_wp2_with (first | (go_at_call 61; refine (c_impl_inside _ _ _ _ ).mono ?_; rintro e w' ⟨rfl, hb⟩; have hc := cellOf hb; have hf := frozOf hb; have hz := sizeOf hb; try simp at hz))
  all_goals go_ret
  all_goals
    refine ⟨ret_bool ?_, ?_⟩
    · first | rfl | omega | (simp []; done) | (simp []; omega) | (simp []; (repeat' split) <;> (first | omega | (simp; done) | (simp; omega))) | (simp_all []; done) | (simp_all []; omega)
    · (repeat' (first | exact Below.refl _ _ | assumption | refine Below.setCell ?_ ?_ _ | refine Below.drew ?_ | refine Below.alloc ?_ ?_ _ | refine Below.trans ?_ (Below.mono (by assumption) ?_) | (simp; done) | (simp; omega) | omega))

set_option maxHeartbeats 2000000 in
theorem c_idx_fl (A : Option Addr) (xs : List (Int)) (cap : Nat)  (w : World) (h0 : Rds cIn 1 w A xs) (hn : xs.length ≤ 9223372036854775807)  :
    Calls Try.prog 80 #[.slice A xs.length cap, .func (.func 72) #[] #[]] w fun e w' => e = .returned (.int .i64 (idxF noFl xs)) ∧ Below w.heap.size w w' := by
  go_enter Try.func80, Try.ntmps80
  go_wp2_with (fail)
  go_loopw [5, 8] (fun _ i wr => ∃ k : Nat, k ≤ xs.length ∧ i = .int .i64 k ∧ (xs.take k).any noFl = false ∧ Below w.heap.size w wr) (fun _ i _ => xs.length - (intOf i).toNat)
  case atStart => exact ⟨0, Nat.zero_le _, rfl, rfl, Below.refl _ _⟩
  case round =>
    obtain ⟨k, hk, rfl, hl, hbr⟩ := hrel
    have HT := hid hl
    clear hl
    by_cases hlt : k < xs.length
    · obtain ⟨bx, ox, rfl, hbx, hcx⟩ := h0 k xs[k] (List.getElem?_eq_getElem hlt)
      have hx0 := hcx 0 _ rfl
      simp only [Nat.add_zero, Nat.mul_one] at hx0
      clear hcx h0
      skip
      have HS := hid (any_snoc noFl xs k hlt)
      have HH := hid (fun hp => idxF_hit (p := noFl) (xs := xs) HT.out hlt hp)
      obtain ⟨x, hxk⟩ : ∃ x, x = xs[k] := ⟨_, rfl⟩
      simp only [← hxk] at hx0 HS HH
      clear hxk
      have hc := cellOf hbr
      have hf := frozOf hbr
      have hz := sizeOf hbr
      skip
      by_cases hp : noFl x = true
      · have HP := hid hp
        have hp' := hp
        simp only [noFl, Bool.not_eq_true', Bool.not_eq_false'] at hp'
        clear hp
        go_wp2_with (go_at_call 72; refine (c_impl_IsPumpTask_1 _ _).mono ?_; rintro e w2 ⟨rfl, hb2⟩)
        go_ret
        exact ⟨ret_int (HH.out HP.out).symm, by (repeat' (first | exact Below.refl _ _ | assumption | refine Below.setCell ?_ ?_ _ | refine Below.drew ?_ | refine Below.alloc ?_ ?_ _ | refine Below.trans ?_ (Below.mono (by assumption) ?_) | (simp; done) | (simp; omega) | omega))⟩
      · have HP : Hid (noFl x = false) := by show _ = _; simpa using hp
        have hp' := HP.out
        simp only [noFl, Bool.not_eq_true', Bool.not_eq_false'] at hp'
        clear hp
        go_wp2_with (go_at_call 72; refine (c_impl_IsPumpTask_1 _ _).mono ?_; rintro e w2 ⟨rfl, hb2⟩)
        go_roundw
        case rel => exact ⟨k + 1, by omega, by go_num, by rw [HS.out, HT.out, HP.out]; rfl, by (repeat' (first | exact Below.refl _ _ | assumption | refine Below.setCell ?_ ?_ _ | refine Below.drew ?_ | refine Below.alloc ?_ ?_ _ | refine Below.trans ?_ (Below.mono (by assumption) ?_) | (simp; done) | (simp; omega) | omega))⟩
        case measure => simp [intOf]; omega
    · obtain rfl : k = xs.length := by omega
      have HN := hid (idxF_none (p := noFl) (xs := xs) (by have := HT.out; rwa [List.take_length] at this))
      go_wp2_with (fail)
      go_ret
      exact ⟨ret_int HN.out.symm, by (repeat' (first | exact Below.refl _ _ | assumption | refine Below.setCell ?_ ?_ _ | refine Below.drew ?_ | refine Below.alloc ?_ ?_ _ | refine Below.trans ?_ (Below.mono (by assumption) ?_) | (simp; done) | (simp; omega) | omega))⟩

set_option maxHeartbeats 2000000 in
theorem c_has_fl (A : Option Addr) (xs : List (Int)) (cap : Nat)  (w : World) (h0 : Rds cIn 1 w A xs) (hn : xs.length ≤ 9223372036854775807)  :
    Calls Try.prog 71 #[.slice A xs.length cap, .func (.func 72) #[] #[]] w fun e w' => e = .returned (.bool (xs.any noFl)) ∧ Below w.heap.size w w' := by
  go_enter Try.func71, Try.ntmps71
  go_wp2_with (go_at_call 80; refine (c_idx_fl _ _ _ _ (by assumption) (by assumption) ).mono ?_; rintro e w' ⟨rfl, hb⟩)
  all_goals go_ret
  all_goals exact ⟨ret_bool (by rw [← idxF_any]; simp), by (repeat' (first | exact Below.refl _ _ | assumption | refine Below.setCell ?_ ?_ _ | refine Below.drew ?_ | refine Below.alloc ?_ ?_ _ | refine Below.trans ?_ (Below.mono (by assumption) ?_) | (simp; done) | (simp; omega) | omega))⟩

set_option maxHeartbeats 2000000 in
theorem c_idx_pu (A : Option Addr) (xs : List (Int × Int × Int)) (cap : Nat)  (w : World) (h0 : Rds cPu 3 w A xs) (hn : xs.length ≤ 9223372036854775807)  :
    Calls Try.prog 85 #[.slice A xs.length cap, .func (.func 74) #[] #[]] w fun e w' => e = .returned (.int .i64 (idxF noPu xs)) ∧ Below w.heap.size w w' := by
  go_enter Try.func85, Try.ntmps85
  go_wp2_with (fail)
  go_loopw [5, 8] (fun _ i wr => ∃ k : Nat, k ≤ xs.length ∧ i = .int .i64 k ∧ (xs.take k).any noPu = false ∧ Below w.heap.size w wr) (fun _ i _ => xs.length - (intOf i).toNat)
  case atStart => exact ⟨0, Nat.zero_le _, rfl, rfl, Below.refl _ _⟩
  case round =>
    obtain ⟨k, hk, rfl, hl, hbr⟩ := hrel
    have HT := hid hl
    clear hl
    by_cases hlt : k < xs.length
    · obtain ⟨bx, ox, rfl, hbx, hcx⟩ := h0 k xs[k] (List.getElem?_eq_getElem hlt)
      have hx0 := hcx 0 _ rfl
      have hx1 := hcx 1 _ rfl
      have hx2 := hcx 2 _ rfl
      simp only [Nat.add_zero] at hx0
      clear hcx h0
      skip
      have HS := hid (any_snoc noPu xs k hlt)
      have HH := hid (fun hp => idxF_hit (p := noPu) (xs := xs) HT.out hlt hp)
      obtain ⟨x, hxk⟩ : ∃ x, x = xs[k] := ⟨_, rfl⟩
      simp only [← hxk] at hx0 hx1 hx2 HS HH
      clear hxk
      have hc := cellOf hbr
      have hf := frozOf hbr
      have hz := sizeOf hbr
      skip
      by_cases hp : noPu x = true
      · have HP := hid hp
        have hp' := hp
        simp only [noPu, puOk, Bool.not_eq_true', Bool.not_eq_false'] at hp'
        clear hp
        go_wp2_with (go_at_call 74; refine (c_impl_IsPumpTask_2 _ _ _ _).mono ?_; rintro e w2 ⟨rfl, hb2⟩)
        go_ret
        exact ⟨ret_int (HH.out HP.out).symm, by (repeat' (first | exact Below.refl _ _ | assumption | refine Below.setCell ?_ ?_ _ | refine Below.drew ?_ | refine Below.alloc ?_ ?_ _ | refine Below.trans ?_ (Below.mono (by assumption) ?_) | (simp; done) | (simp; omega) | omega))⟩
      · have HP : Hid (noPu x = false) := by show _ = _; simpa using hp
        have hp' := HP.out
        simp only [noPu, puOk, Bool.not_eq_true', Bool.not_eq_false'] at hp'
        clear hp
        go_wp2_with (go_at_call 74; refine (c_impl_IsPumpTask_2 _ _ _ _).mono ?_; rintro e w2 ⟨rfl, hb2⟩)
        go_roundw
        case rel => exact ⟨k + 1, by omega, by go_num, by rw [HS.out, HT.out, HP.out]; rfl, by (repeat' (first | exact Below.refl _ _ | assumption | refine Below.setCell ?_ ?_ _ | refine Below.drew ?_ | refine Below.alloc ?_ ?_ _ | refine Below.trans ?_ (Below.mono (by assumption) ?_) | (simp; done) | (simp; omega) | omega))⟩
        case measure => simp [intOf]; omega
    · obtain rfl : k = xs.length := by omega
      have HN := hid (idxF_none (p := noPu) (xs := xs) (by have := HT.out; rwa [List.take_length] at this))
      go_wp2_with (fail)
      go_ret
      exact ⟨ret_int HN.out.symm, by (repeat' (first | exact Below.refl _ _ | assumption | refine Below.setCell ?_ ?_ _ | refine Below.drew ?_ | refine Below.alloc ?_ ?_ _ | refine Below.trans ?_ (Below.mono (by assumption) ?_) | (simp; done) | (simp; omega) | omega))⟩

set_option maxHeartbeats 2000000 in
theorem c_has_pu (A : Option Addr) (xs : List (Int × Int × Int)) (cap : Nat)  (w : World) (h0 : Rds cPu 3 w A xs) (hn : xs.length ≤ 9223372036854775807)  :
    Calls Try.prog 73 #[.slice A xs.length cap, .func (.func 74) #[] #[]] w fun e w' => e = .returned (.bool (xs.any noPu)) ∧ Below w.heap.size w w' := by
  go_enter Try.func73, Try.ntmps73
  go_wp2_with (go_at_call 85; refine (c_idx_pu _ _ _ _ (by assumption) (by assumption) ).mono ?_; rintro e w' ⟨rfl, hb⟩)
  all_goals go_ret
  all_goals exact ⟨ret_bool (by rw [← idxF_any]; simp), by (repeat' (first | exact Below.refl _ _ | assumption | refine Below.setCell ?_ ?_ _ | refine Below.drew ?_ | refine Below.alloc ?_ ?_ _ | refine Below.trans ?_ (Below.mono (by assumption) ?_) | (simp; done) | (simp; omega) | omega))⟩

set_option maxRecDepth 100000 in
set_option maxHeartbeats 4000000 in
theorem c_impl_IsPumpTask (l h v : Int) (A : Option Addr) (fs : List Int) (capf : Nat) (B : Option Addr) (ps : List (Int × Int × Int)) (capq : Nat) (w : World) (hx : Rds cIn 1 w A fs) (hn : fs.length ≤ 9223372036854775807) (hy : Rds cPu 3 w B ps) (hm : ps.length ≤ 9223372036854775807) :
    Calls Try.prog 42 #[.agg #[.int .i64 l, .int .i64 h, .int .i64 v, .slice A fs.length capf, .slice B ps.length capq]] w fun e w' => e = .returned (.bool (taskB l h v fs ps)) ∧ Below w.heap.size w w' := by
  by_cases hs0 : 0 ≤ l
  rotate_left
  · have HV := hid (show taskB l h v fs ps = false from taskB_nohead (by simp [headB]; omega))
    go_enter Try.func42, Try.ntmps42
    go_wp2_with (first | (go_at_call 61; refine (c_impl_inside _ _ _ _ ).mono ?_; rintro e w' ⟨rfl, hb⟩; have hc := cellOf hb; have hf := frozOf hb; have hz := sizeOf hb; try simp at hz))
    all_goals go_ret
    all_goals exact ⟨by first | (rw [HV.out]; done) | (rw [HV.out]; rfl), by (repeat' (first | exact Below.refl _ _ | assumption | refine Below.setCell ?_ ?_ _ | refine Below.drew ?_ | refine Below.alloc ?_ ?_ _ | refine Below.trans ?_ (Below.mono (by assumption) ?_) | (simp; done) | (simp; omega) | omega))⟩
  by_cases hs1 : l ≤ v
  rotate_left
  · have HV := hid (show taskB l h v fs ps = false from taskB_nohead (by simp [headB]; omega))
    go_enter Try.func42, Try.ntmps42
    go_wp2_with (first | (go_at_call 61; refine (c_impl_inside _ _ _ _ ).mono ?_; rintro e w' ⟨rfl, hb⟩; have hc := cellOf hb; have hf := frozOf hb; have hz := sizeOf hb; try simp at hz))
    all_goals go_ret
    all_goals exact ⟨by first | (rw [HV.out]; done) | (rw [HV.out]; rfl), by (repeat' (first | exact Below.refl _ _ | assumption | refine Below.setCell ?_ ?_ _ | refine Below.drew ?_ | refine Below.alloc ?_ ?_ _ | refine Below.trans ?_ (Below.mono (by assumption) ?_) | (simp; done) | (simp; omega) | omega))⟩
  by_cases hs2 : v ≤ h
  rotate_left
  · have HV := hid (show taskB l h v fs ps = false from taskB_nohead (by simp [headB]; omega))
    go_enter Try.func42, Try.ntmps42
    go_wp2_with (first | (go_at_call 61; refine (c_impl_inside _ _ _ _ ).mono ?_; rintro e w' ⟨rfl, hb⟩; have hc := cellOf hb; have hf := frozOf hb; have hz := sizeOf hb; try simp at hz))
    all_goals go_ret
    all_goals exact ⟨by first | (rw [HV.out]; done) | (rw [HV.out]; rfl), by (repeat' (first | exact Below.refl _ _ | assumption | refine Below.setCell ?_ ?_ _ | refine Below.drew ?_ | refine Below.alloc ?_ ?_ _ | refine Below.trans ?_ (Below.mono (by assumption) ?_) | (simp; done) | (simp; omega) | omega))⟩
  by_cases hs3 : h ≤ 500
  rotate_left
  · have HV := hid (show taskB l h v fs ps = false from taskB_nohead (by simp [headB]; omega))
    go_enter Try.func42, Try.ntmps42
    go_wp2_with (first | (go_at_call 61; refine (c_impl_inside _ _ _ _ ).mono ?_; rintro e w' ⟨rfl, hb⟩; have hc := cellOf hb; have hf := frozOf hb; have hz := sizeOf hb; try simp at hz))
    all_goals go_ret
    all_goals exact ⟨by first | (rw [HV.out]; done) | (rw [HV.out]; rfl), by (repeat' (first | exact Below.refl _ _ | assumption | refine Below.setCell ?_ ?_ _ | refine Below.drew ?_ | refine Below.alloc ?_ ?_ _ | refine Below.trans ?_ (Below.mono (by assumption) ?_) | (simp; done) | (simp; omega) | omega))⟩
  by_cases hs4 : inB (fs.length : Int) 1 5 = true
  rotate_left
  · have hn4 : inB (fs.length : Int) 1 5 = false := Bool.eq_false_iff.2 hs4
    have HV := hid (show taskB l h v fs ps = false from taskB_nohead (by simp [headB]; simp [inB] at hn4; omega))
    clear hs4
    go_enter Try.func42, Try.ntmps42
    go_wp2_with (first | (go_at_call 61; refine (c_impl_inside _ _ _ _ ).mono ?_; rintro e w' ⟨rfl, hb⟩; have hc := cellOf hb; have hf := frozOf hb; have hz := sizeOf hb; try simp at hz))
    all_goals go_ret
    all_goals exact ⟨by first | (rw [HV.out]; done) | (rw [HV.out]; rfl), by (repeat' (first | exact Below.refl _ _ | assumption | refine Below.setCell ?_ ?_ _ | refine Below.drew ?_ | refine Below.alloc ?_ ?_ _ | refine Below.trans ?_ (Below.mono (by assumption) ?_) | (simp; done) | (simp; omega) | omega))⟩
  by_cases hs5 : ps.length ≤ 2
  rotate_left
  · have HV := hid (show taskB l h v fs ps = false from taskB_nohead (by simp [headB]; omega))
    go_enter Try.func42, Try.ntmps42
    go_wp2_with (first | (go_at_call 61; refine (c_impl_inside _ _ _ _ ).mono ?_; rintro e w' ⟨rfl, hb⟩; have hc := cellOf hb; have hf := frozOf hb; have hz := sizeOf hb; try simp at hz))
    all_goals go_ret
    all_goals exact ⟨by first | (rw [HV.out]; done) | (rw [HV.out]; rfl), by (repeat' (first | exact Below.refl _ _ | assumption | refine Below.setCell ?_ ?_ _ | refine Below.drew ?_ | refine Below.alloc ?_ ?_ _ | refine Below.trans ?_ (Below.mono (by assumption) ?_) | (simp; done) | (simp; omega) | omega))⟩
  have hfl := inB_bd hs4
  have HH := hid (show headB l h v fs.length ps.length = true by simp [headB]; omega)
  by_cases h1 : fs.any noFl = true
  · have HV := hid (show taskB l h v fs ps = false by rw [taskB, fl_any, h1]; simp)
    go_enter Try.func42, Try.ntmps42
    go_wp2_with (first | (first | (go_at_call 61; refine (c_impl_inside _ _ _ _ ).mono ?_; rintro e w' ⟨rfl, hb⟩; have hc := cellOf hb; have hf := frozOf hb; have hz := sizeOf hb; try simp at hz)) | (go_at_call 71; refine (c_has_fl _ _ _ _ (by first | assumption | exact Rds.below hx (by (repeat' (first | exact Below.refl _ _ | assumption | refine Below.setCell ?_ ?_ _ | refine Below.drew ?_ | refine Below.alloc ?_ ?_ _ | refine Below.trans ?_ (Below.mono (by assumption) ?_) | (simp; done) | (simp; omega) | omega)))) (by omega)).mono ?_; rintro e w' ⟨rfl, hb⟩; have hc := cellOf hb; have hf := frozOf hb; have hz := sizeOf hb; try simp at hz) | (go_at_call 73; refine (c_has_pu _ _ _ _ (by first | assumption | exact Rds.below hy (by (repeat' (first | exact Below.refl _ _ | assumption | refine Below.setCell ?_ ?_ _ | refine Below.drew ?_ | refine Below.alloc ?_ ?_ _ | refine Below.trans ?_ (Below.mono (by assumption) ?_) | (simp; done) | (simp; omega) | omega)))) (by omega)).mono ?_; rintro e w' ⟨rfl, hb⟩; have hc := cellOf hb; have hf := frozOf hb; have hz := sizeOf hb; try simp at hz))
    go_ret
    exact ⟨ret_bool (by rw [HV.out]), by (repeat' (first | exact Below.refl _ _ | assumption | refine Below.setCell ?_ ?_ _ | refine Below.drew ?_ | refine Below.alloc ?_ ?_ _ | refine Below.trans ?_ (Below.mono (by assumption) ?_) | (simp; done) | (simp; omega) | omega))⟩
  have h1f : fs.any noFl = false := by simpa using h1
  clear h1
  have HV := hid (show taskB l h v fs ps = !(ps.any noPu) by rw [taskB, fl_any, h1f, HH.out, pu_any]; simp)
  go_enter Try.func42, Try.ntmps42
  go_wp2_with (first | (first | (go_at_call 61; refine (c_impl_inside _ _ _ _ ).mono ?_; rintro e w' ⟨rfl, hb⟩; have hc := cellOf hb; have hf := frozOf hb; have hz := sizeOf hb; try simp at hz)) | (go_at_call 71; refine (c_has_fl _ _ _ _ (by first | assumption | exact Rds.below hx (by (repeat' (first | exact Below.refl _ _ | assumption | refine Below.setCell ?_ ?_ _ | refine Below.drew ?_ | refine Below.alloc ?_ ?_ _ | refine Below.trans ?_ (Below.mono (by assumption) ?_) | (simp; done) | (simp; omega) | omega)))) (by omega)).mono ?_; rintro e w' ⟨rfl, hb⟩; have hc := cellOf hb; have hf := frozOf hb; have hz := sizeOf hb; try simp at hz) | (go_at_call 73; refine (c_has_pu _ _ _ _ (by first | assumption | exact Rds.below hy (by (repeat' (first | exact Below.refl _ _ | assumption | refine Below.setCell ?_ ?_ _ | refine Below.drew ?_ | refine Below.alloc ?_ ?_ _ | refine Below.trans ?_ (Below.mono (by assumption) ?_) | (simp; done) | (simp; omega) | omega)))) (by omega)).mono ?_; rintro e w' ⟨rfl, hb⟩; have hc := cellOf hb; have hf := frozOf hb; have hz := sizeOf hb; try simp at hz))
  go_ret
  exact ⟨ret_bool (by rw [HV.out]), by (repeat' (first | exact Below.refl _ _ | assumption | refine Below.setCell ?_ ?_ _ | refine Below.drew ?_ | refine Below.alloc ?_ ?_ _ | refine Below.trans ?_ (Below.mono (by assumption) ?_) | (simp; done) | (simp; omega) | omega))⟩

end Go.Proofs.Ytpaclngjmdacjaa
namespace Go.Proofs.Ytpaclngjmdacjaa
set_option linter.unusedSimpArgs false
set_option linter.unusedVariables false
open Go.RowKit

def safeV (l h v : Int) (fs : List Int) (ps : List (Int × Int × Int)) (pl : List Int) : Bool × Bool := if planB l h v fs ps pl = true then (decide (idxF (outL l h) (levsTo v fs pl ps pl.length) < 0), true) else (false, false)
def unsV (l h v : Int) (fs : List Int) (ps : List (Int × Int × Int)) (pl : List Int) : Int × Bool := if planB l h v fs ps pl = true ∧ ¬ idxF (outL l h) (levsTo v fs pl ps pl.length) < 0 then (idxF (outL l h) (levsTo v fs pl ps pl.length), true) else (0, false)
def FreshPl (B : Nat) (L : List Int) (n : Nat) (py st pm : Int) (u : Value) (w : World) : Prop := ∃ A cap, u = .agg #[.slice A n cap, .int .i64 py, .int .i64 st, .int .i64 pm] ∧ FreshA cIn 1 3 B w A cap L
theorem FreshPl.stable {B : Nat} {L : List Int} {n : Nat} {py st pm : Int} : Stable (FreshPl B L n py st pm) := fun _ _ _ h hb => by
  obtain ⟨A, cap, h1, h2⟩ := h
  exact ⟨A, cap, h1, h2.below hb⟩
def FreshSl (B : Nat) (L : List Int) (n : Nat) (u : Value) (w : World) : Prop := ∃ A cap, u = .slice A n cap ∧ FreshA cIn 1 3 B w A cap L
theorem FreshSl.stable {B : Nat} {L : List Int} {n : Nat} : Stable (FreshSl B L n) := fun _ _ _ h hb => by
  obtain ⟨A, cap, h1, h2⟩ := h
  exact ⟨A, cap, h1, h2.below hb⟩

end Go.Proofs.Ytpaclngjmdacjaa
namespace Go.Proofs.Ytpaclngjmdacjaa
set_option linter.unusedSimpArgs false
set_option linter.unusedVariables false
open Go.RowKit

def woV (l h v : Int) (fs : List Int) (ps : List (Int × Int × Int)) (i : Int) : (Int × Int × Int × List Int × List (Int × Int × Int)) × Bool := if taskB l h v fs ps = true ∧ 0 ≤ i ∧ i < ps.length then ((l, h, v, fs, ps.take i.toNat ++ ps.drop (i.toNat + 1)), true) else ((0, 0, 0, [], []), false)
theorem taskB_sz {l h v : Int} {fs : List Int} {ps : List (Int × Int × Int)} (e : taskB l h v fs ps = true) : (0 ≤ l ∧ l ≤ v ∧ v ≤ h ∧ h ≤ 500) ∧ ps.length ≤ 2 ∧ 1 ≤ fs.length ∧ fs.length ≤ 5 := by
  have := headB_bd (taskB_head e)
  omega
theorem FreshA.newh {α : Type} {cf : α → List Value} {sz : Nat} {T : TypeId} {B g : Nat} {w : World} (hg : w.heap.size = g) (hB : B ≤ g) : FreshA cf sz T B (w.alloc (.cells #[] T)) (some ⟨g, 0, none⟩) 0 ([] : List α) := by
  subst hg
  exact FreshA.new hB

end Go.Proofs.Ytpaclngjmdacjaa
namespace Go.Proofs.Ytpaclngjmdacjaa
set_option linter.unusedSimpArgs false
set_option linter.unusedVariables false
open Go.RowKit

def CurS (w : World) (b : Nat) (A : Option Addr) (cs : List Int) (cap : Nat) (m : Int) : Prop := Cur w b A cs.length cap m ∧ RdsN b cB 1 w A cs
theorem RdsN.grownb {α : Type} {cf : α → List Value} {sz b : Nat} {w w' : World} {A : Option Addr} {xs : List α} (h : RdsN b cf sz w A xs) (hb : b < w.heap.size) (hg : w.grownBy w' (some b)) : RdsN b cf sz w' A xs := by
  intro i x hx
  obtain ⟨g, off, hA, hlt, hc⟩ := h i x hx
  refine ⟨g, off, hA, hlt, fun j v hv => ?_⟩
  exact (World.cell?_of_block (a := ⟨g, off + i * sz + j, none⟩) (hg.block g (by omega) (by simp; omega))).trans (hc j v hv)
theorem CurS.lt {w : World} {b cap : Nat} {A : Option Addr} {cs : List Int} {m : Int} (h : CurS w b A cs cap m) : b < w.heap.size := h.1.1
theorem CurS.mono {w : World} {b cap : Nat} {A : Option Addr} {cs : List Int} {m m' : Int} (h : CurS w b A cs cap m) (hm : m ≤ m') : CurS w b A cs cap m' := by
  obtain ⟨⟨hb, q0, ⟨a, h1, h2, q1⟩, q2, qz⟩, hr⟩ := h
  exact ⟨⟨hb, q0, ⟨a, h1, by omega, q1⟩, q2, qz⟩, hr⟩
/-- the cursor stays where nothing at or below its block has turned -/
theorem CurS.below {w w' : World} {b cap : Nat} {A : Option Addr} {cs : List Int} {m : Int} (h : CurS w b A cs cap m) (hb : Below w.heap.size w w') : CurS w' b A cs cap m := by
  obtain ⟨⟨hlt, q0, ⟨a, h1, h2, q1⟩, ⟨s, q2⟩, qz⟩, hr⟩ := h
  have hc : ∀ o, w'.cell? ⟨b, o, none⟩ = w.cell? ⟨b, o, none⟩ := fun o => hb.cell (p := ⟨b, o, none⟩) hlt
  refine ⟨⟨Nat.lt_of_lt_of_le hlt hb.size, by rw [hc]; exact q0, ⟨a, h1, h2, by rw [hc]; exact q1⟩, ⟨s, by rw [hc]; exact q2⟩, fun o => by rw [hb.frozen (p := ⟨b, o, none⟩) hlt]; exact qz o⟩, ?_⟩
  intro i x hx
  obtain ⟨g, off, hA, hg, hcc⟩ := hr i x hx
  exact ⟨g, off, hA, hg, fun j v hv => (hb.cell (p := ⟨g, off + i * 1 + j, none⟩) (by show g < _; omega)).trans (hcc j v hv)⟩
theorem grown_trans {a w w' : World} {row : Option Nat} (h : a.grownBy w row) (h' : w.grownBy w' row) : a.grownBy w' row :=
  ⟨h'.os.trans h.os, h'.tape.trans h.tape, h'.output.trans h.output, Nat.le_trans h.size h'.size, fun i hi hne => (h'.block i (Nat.lt_of_lt_of_le hi h.size) hne).trans (h.block i hi hne)⟩
theorem grown_of_below {w w' : World} {row : Option Nat} (h : Below w.heap.size w w') : w.grownBy w' row := ⟨h.os, h.tape, h.output, h.size, fun i hi _ => h.block i hi⟩
theorem grown_alloc (w : World) (o : Obj) (row : Option Nat) : w.grownBy (w.alloc o) row := grown_of_below ((Below.refl _ _).alloc (Nat.le_refl _) _)
theorem c_nextS (b : Nat) (A : Option Addr) (cs : List Int) (cap : Nat) (m : Int) (w : World) (hcu : CurS w b A cs cap m) (hby : Bytes cs) (hm : 0 ≤ m ∧ m ≤ 1000000000) (hl : cs.length ≤ 1000000000) :
    Calls Try.prog 86 #[.pointer (some ⟨b, 0, none⟩)] w fun e w' => ∃ x : Int, e = .returned (.int .i64 x) ∧ 0 ≤ x ∧ x ≤ 255 ∧ CurS w' b A cs cap (m + 1) ∧ w.grownBy w' (some b) :=
  (c_next b A cs cap m w hcu.1 hcu.2 hby hm hl).mono fun _ _ ⟨x, he, h1, h2, h3, h4⟩ => ⟨x, he, h1, h2, ⟨h3, hcu.2.grownb hcu.1.1 h4⟩, h4⟩
theorem emod_bd {x n : Int} (hn : 1 < n) : 0 ≤ x % n ∧ x % n < n := ⟨Int.emod_nonneg _ (by omega), Int.emod_lt_of_pos _ (by omega)⟩
set_option maxHeartbeats 2000000 in
theorem c_pick (b : Nat) (A : Option Addr) (cs : List Int) (cap : Nat) (m n : Int) (w : World) (hcu : CurS w b A cs cap m) (hby : Bytes cs) (hm : 0 ≤ m ∧ m ≤ 900000000) (hl : cs.length ≤ 1000000000) (hn : n ≤ 200) :
    Calls Try.prog 75 #[.pointer (some ⟨b, 0, none⟩), .int .i64 n] w fun e w' => ∃ x : Int, e = .returned (.int .i64 x) ∧ 0 ≤ x ∧ (x = 0 ∨ x < n) ∧ CurS w' b A cs cap (m + 1) ∧ w.grownBy w' (some b) := by
  by_cases h1 : n ≤ 1
  · go_enter Try.func75, Try.ntmps75
    go_wp2_with (fail)
    go_ret
    exact ⟨0, rfl, by omega, .inl rfl, hcu.mono (by omega), World.grownBy.refl _ _⟩
  · go_enter Try.func75, Try.ntmps75
    go_wp2_with (fail)
    refine (c_nextS b A cs cap m _ hcu hby (by omega) hl).mono ?_
    rintro e w1 ⟨x, rfl, hx0, hx1, hcu1, hg1⟩
    go_wp2_with (fail)
    have ht := emod_bd (x := x) (n := n) (by omega)
    go_ret
    exact ⟨x % n, rfl, ht.1, .inr ht.2, hcu1, hg1⟩

end Go.Proofs.Ytpaclngjmdacjaa
namespace Go.Proofs.Ytpaclngjmdacjaa
set_option linter.unusedSimpArgs false
set_option linter.unusedVariables false
open Go.RowKit

def cI (x : Int) : List Value := [.int .i64 x]
theorem Rds.of_block {w : World} {g : Nat} {cur : Array Value} {T : TypeId} {fr : Nat × Nat} {L : List Int} (h : w.heap[g]? = some (.cells cur T fr)) (hc : ∀ (i : Nat) (x : Int), L[i]? = some x → cur[i]? = some (Value.int .i64 x)) : Rds cI 1 w (some ⟨g, 0, none⟩) L := by
  intro i x hx
  have hlt : g < w.heap.size := by
    rcases Nat.lt_or_ge g w.heap.size with hl | hl
    · exact hl
    · rw [Array.getElem?_eq_none hl] at h; cases h
  refine ⟨g, 0, rfl, hlt, fun j v hv => ?_⟩
  match j, hv with
  | 0, hv =>
    simp only [cI, List.getElem?_cons_zero, Option.some.injEq] at hv
    subst hv
    simp [World.cell?, h, hc i x hx]
  | j + 1, hv => simp [cI] at hv
set_option maxHeartbeats 2000000 in
theorem c_one (b : Nat) (A : Option Addr) (cs : List Int) (cap : Nat) (m n : Int) (w : World) (hcu : CurS w b A cs cap m) (hby : Bytes cs) (hm : 0 ≤ m ∧ m ≤ 900000000) (hl : cs.length ≤ 1000000000) (hn : n ≤ 200) :
    Calls Try.prog 83 #[.pointer (some ⟨b, 0, none⟩), .int .i64 n] w fun e w' => ∃ y : Bool, e = .returned (.bool y) ∧ CurS w' b A cs cap (m + 1) ∧ w.grownBy w' (some b) := by
  go_enter Try.func83, Try.ntmps83
  go_wp2_with (fail)
  refine (c_pick b A cs cap m n _ hcu hby hm hl hn).mono ?_
  rintro e w1 ⟨x, rfl, hx0, hx1, hcu1, hg1⟩
  go_wp2_with (fail)
  all_goals go_ret
  all_goals exact ⟨_, rfl, hcu1, hg1⟩
set_option maxHeartbeats 2000000 in
theorem c_among (b : Nat) (A : Option Addr) (cs : List Int) (cap : Nat) (m : Int) (AL : Option Addr) (L : List Int) (capL : Nat) (lo hi : Int) (w : World) (hcu : CurS w b A cs cap m) (hby : Bytes cs) (hm : 0 ≤ m ∧ m ≤ 900000000) (hl : cs.length ≤ 1000000000)
    (hL : Rds cI 1 w AL L) (hlen : 0 < L.length ∧ L.length ≤ 200) (hne : ∀ a, AL = some a → some a.block ≠ some b) (hbd : ∀ k (hk : k < L.length), lo ≤ L[k] ∧ L[k] ≤ hi) :
    Calls Try.prog 82 #[.pointer (some ⟨b, 0, none⟩), .slice AL L.length capL] w fun e w' => ∃ y : Int, e = .returned (.int .i64 y) ∧ lo ≤ y ∧ y ≤ hi ∧ CurS w' b A cs cap (m + 1) ∧ w.grownBy w' (some b) := by
  go_enter Try.func82, Try.ntmps82
  go_wp2_with (fail)
  refine (c_pick b A cs cap m L.length _ hcu hby hm hl (by omega)).mono ?_
  rintro e w1 ⟨x, rfl, hx0, hx1, hcu1, hg1⟩
  obtain ⟨k, rfl⟩ : ∃ k : Nat, x = k := ⟨x.toNat, by omega⟩
  have hk : k < L.length := by omega
  have hL1 := hL.grown hg1 hne
  obtain ⟨bx, ox, rfl, hbx, hcx⟩ := hL1 k L[k] (List.getElem?_eq_getElem hk)
  have hx := hcx 0 _ rfl
  simp only [Nat.add_zero, Nat.mul_one] at hx
  have hy := hbd k hk
  clear hcx hL1 hbd hL hne
  generalize L[k] = y at *
  generalize L.length = n at *
  go_wp2_with (fail)
  all_goals go_ret
  all_goals exact ⟨y, rfl, hy.1, hy.2, hcu1, hg1⟩

end Go.Proofs.Ytpaclngjmdacjaa
namespace Go.Proofs.Ytpaclngjmdacjaa
set_option linter.unusedSimpArgs false
set_option linter.unusedVariables false
open Go.RowKit

theorem cellRow {W w' : World} {b : Nat} (hg : W.grownBy w' (some b)) : ∀ g o, w'.cell? ⟨g, o, none⟩ = if g < W.heap.size ∧ g ≠ b then W.cell? ⟨g, o, none⟩ else far w' g o := by
  intro g o
  by_cases h : g < W.heap.size ∧ g ≠ b
  · rw [if_pos h]; exact World.cell?_of_block (a := ⟨g, o, none⟩) (hg.block g h.1 (by simpa using h.2))
  · rw [if_neg h]; rfl
theorem frozRow {W w' : World} {b : Nat} (hg : W.grownBy w' (some b)) : ∀ g o, w'.frozen? ⟨g, o, none⟩ = if g < W.heap.size ∧ g ≠ b then W.frozen? ⟨g, o, none⟩ else farz w' g o := by
  intro g o
  by_cases h : g < W.heap.size ∧ g ≠ b
  · rw [if_pos h]; exact World.frozen?_of_block (a := ⟨g, o, none⟩) (hg.block g h.1 (by simpa using h.2))
  · rw [if_neg h]; rfl
theorem Rds.of_lit {w : World} {g : Nat} {cur : Array Value} {T : TypeId} {L : List Int} (hg : g = w.heap.size) (hc : ∀ (i : Nat) (x : Int), L[i]? = some x → cur[i]? = some (Value.int .i64 x)) : Rds cI 1 (w.alloc (.cells cur T)) (some ⟨g, 0, none⟩) L := by
  subst hg
  exact Rds.of_block (heap_alloc_new _ _) hc
theorem CurS.setc {w : World} {b cap : Nat} {A : Option Addr} {cs : List Int} {m : Int} {p : Addr} {v : Value} (h : CurS w b A cs cap m) (hp : b < p.block) : CurS (w.setCell p v) b A cs cap m := by
  obtain ⟨⟨hlt, q0, ⟨a, h1, h2, q1⟩, ⟨s, q2⟩, qz⟩, hr⟩ := h
  have hk : ∀ g, g ≤ b → (w.setCell p v).heap[g]? = w.heap[g]? := fun g hg => Below.heap_setCell w p v g (by omega)
  have hc : ∀ g, g ≤ b → ∀ o, (w.setCell p v).cell? ⟨g, o, none⟩ = w.cell? ⟨g, o, none⟩ := fun g hg o => World.cell?_of_block (a := ⟨g, o, none⟩) (hk g hg)
  have hz : ∀ o, (w.setCell p v).frozen? ⟨b, o, none⟩ = w.frozen? ⟨b, o, none⟩ := fun o => World.frozen?_of_block (a := ⟨b, o, none⟩) (hk b (Nat.le_refl _))
  refine ⟨⟨by simpa [World.setCell] using hlt, by rw [hc b (Nat.le_refl _)]; exact q0, ⟨a, h1, h2, by rw [hc b (Nat.le_refl _)]; exact q1⟩, ⟨s, by rw [hc b (Nat.le_refl _)]; exact q2⟩, fun o => by rw [hz]; exact qz o⟩, ?_⟩
  intro i x hx
  obtain ⟨g, off, hA, hg, hcc⟩ := hr i x hx
  exact ⟨g, off, hA, hg, fun j u hu => (hc g (by omega) _).trans (hcc j u hu)⟩
theorem CurS.allo {w : World} {b cap : Nat} {A : Option Addr} {cs : List Int} {m : Int} {o : Obj} (h : CurS w b A cs cap m) : CurS (w.alloc o) b A cs cap m := h.below ((Below.refl _ _).alloc (Nat.le_refl _) _)
theorem CurS.drw {w : World} {b cap : Nat} {A : Option Addr} {cs : List Int} {m : Int} (h : CurS w b A cs cap m) : CurS w.drew b A cs cap m := h.below ((Below.refl _ _).drew)
theorem grownA {a w : World} {row : Option Nat} {o : Obj} (h : a.grownBy w row) : a.grownBy (w.alloc o) row := grown_trans h (grown_alloc w o row)
theorem grownS {a w : World} {row : Option Nat} {p : Addr} {v : Value} (h : a.grownBy w row) (hp : a.heap.size ≤ p.block) : a.grownBy (w.setCell p v) row :=
  ⟨h.os, h.tape, h.output, by simpa [World.setCell] using h.size, fun i hi hne => (Below.heap_setCell w p v i (by omega)).trans (h.block i hi hne)⟩
theorem grownT {a W w' : World} {row : Option Nat} (hg : W.grownBy w' row) (h : a.grownBy W row) : a.grownBy w' row := grown_trans h hg

end Go.Proofs.Ytpaclngjmdacjaa
namespace Go.Proofs.Ytpaclngjmdacjaa
set_option linter.unusedSimpArgs false
set_option linter.unusedVariables false
open Go.RowKit


end Go.Proofs.Ytpaclngjmdacjaa
namespace Go.Proofs.Ytpaclngjmdacjaa
set_option linter.unusedSimpArgs false
set_option linter.unusedVariables false
open Go.RowKit

theorem CurS.keep {w w' : World} {b cap : Nat} {A : Option Addr} {cs : List Int} {m : Int} (h : CurS w b A cs cap m) (hk : ∀ g, g ≤ b → w'.heap[g]? = w.heap[g]?) (hs : w.heap.size ≤ w'.heap.size) : CurS w' b A cs cap m := by
  obtain ⟨⟨hlt, q0, ⟨a, h1, h2, q1⟩, ⟨s, q2⟩, qz⟩, hr⟩ := h
  have hc : ∀ g, g ≤ b → ∀ o, w'.cell? ⟨g, o, none⟩ = w.cell? ⟨g, o, none⟩ := fun g hg o => World.cell?_of_block (a := ⟨g, o, none⟩) (hk g hg)
  have hz : ∀ o, w'.frozen? ⟨b, o, none⟩ = w.frozen? ⟨b, o, none⟩ := fun o => World.frozen?_of_block (a := ⟨b, o, none⟩) (hk b (Nat.le_refl _))
  refine ⟨⟨by omega, by rw [hc b (Nat.le_refl _)]; exact q0, ⟨a, h1, h2, by rw [hc b (Nat.le_refl _)]; exact q1⟩, ⟨s, by rw [hc b (Nat.le_refl _)]; exact q2⟩, fun o => by rw [hz]; exact qz o⟩, ?_⟩
  intro i x hx
  obtain ⟨g, off, hA, hg, hcc⟩ := hr i x hx
  exact ⟨g, off, hA, hg, fun j u hu => (hc g (by omega) _).trans (hcc j u hu)⟩
theorem ne_blk {A2 : Option Addr} {B g : Nat} (hl : Lo B A2) (hg : g < B) : some g ≠ blkO A2 := by
  intro e
  cases hA : A2 with
  | none => rw [hA] at e; cases e
  | some x =>
    rw [hA] at e
    simp only [blkO, Option.map_some, Option.some.injEq] at e
    have := hl x hA
    omega
/-- the cursor stays where a row from block B on has grown -/
theorem CurS.other {w w' : World} {b cap B : Nat} {A A2 : Option Addr} {cs : List Int} {m : Int} (h : CurS w b A cs cap m) (hg : w.grownBy w' (blkO A2)) (hl : Lo B A2) (hB : b < B) : CurS w' b A cs cap m :=
  h.keep (fun g hgb => hg.block g (Nat.lt_of_le_of_lt hgb h.lt) (ne_blk hl (by omega))) hg.size
theorem grown_other {a w w' : World} {row : Option Nat} {A2 : Option Addr} (h : a.grownBy w row) (hg : w.grownBy w' (blkO A2)) (hl : Lo a.heap.size A2) : a.grownBy w' row :=
  ⟨hg.os.trans h.os, hg.tape.trans h.tape, hg.output.trans h.output, Nat.le_trans h.size hg.size, fun i hi hne => (hg.block i (Nat.lt_of_lt_of_le hi h.size) (ne_blk hl hi)).trans (h.block i hi hne)⟩
theorem FreshA.rowb {α : Type} {cf : α → List Value} {sz B cap b : Nat} {T : TypeId} {w w' : World} {A : Option Addr} {xs : List α} (h : FreshA cf sz T B w A cap xs) (hg : w.grownBy w' (some b)) (hb : b < B) : FreshA cf sz T B w' A cap xs :=
  h.grown hg fun a ha e => by
    have := h.lo a ha
    simp only [Option.some.injEq] at e
    omega

end Go.Proofs.Ytpaclngjmdacjaa
namespace Go.Proofs.Ytpaclngjmdacjaa
set_option linter.unusedSimpArgs false
set_option linter.unusedVariables false
open Go.RowKit


end Go.Proofs.Ytpaclngjmdacjaa
namespace Go.Proofs.Ytpaclngjmdacjaa
set_option linter.unusedSimpArgs false
set_option linter.unusedVariables false
open Go.RowKit


end Go.Proofs.Ytpaclngjmdacjaa
namespace Go.Proofs.Ytpaclngjmdacjaa
set_option linter.unusedSimpArgs false
set_option linter.unusedVariables false
open Go.RowKit

theorem CurS.new {w W : World} {g cap : Nat} {A : Option Addr} {cs : List Int} {T : TypeId} (hr : Rds cB 1 w A cs) (hb : Below w.heap.size w W) (hg : g = W.heap.size) : CurS (W.alloc (.cells #[.slice A cs.length cap, .int .i64 0, .int .u64 0] T)) g A cs cap 0 := by
  subst hg
  have hh := heap_alloc_new W (.cells #[.slice A cs.length cap, .int .i64 0, .int .u64 0] T)
  have hc : ∀ o, (W.alloc (.cells #[.slice A cs.length cap, .int .i64 0, .int .u64 0] T)).cell? ⟨W.heap.size, o, none⟩ = (#[Value.slice A cs.length cap, .int .i64 0, .int .u64 0] : Array Value)[o]? := fun o => Fresh.cell hh o
  refine ⟨⟨by simp, by rw [hc]; rfl, ⟨0, by omega, by omega, by rw [hc]; rfl⟩, ⟨0, by rw [hc]; rfl⟩, fun o => Fresh.froz hh o⟩, ?_⟩
  intro i x hx
  obtain ⟨b, off, hA, hlt, hcc⟩ := hr i x hx
  have hs := hb.size
  refine ⟨b, off, hA, by omega, fun j v hv => ?_⟩
  have h2 : Below w.heap.size w (W.alloc (.cells #[.slice A cs.length cap, .int .i64 0, .int .u64 0] T)) := hb.alloc (by omega) _
  exact (h2.cell (p := ⟨b, off + i * 1 + j, none⟩) hlt).trans (hcc j v hv)
theorem below_row {B b : Nat} {a w w' : World} (h : Below B a w) (hg : w.grownBy w' (some b)) (hb : B ≤ b) (hB : B ≤ w.heap.size) : Below B a w' := h.grown hg hB fun k hk => by cases hk; exact hb

end Go.Proofs.Ytpaclngjmdacjaa
