import Derived.Test.YtfipmalomhflgaaQS01
import Derived.Maps.AppendAt
namespace Go.Proofs.Ytfipmalomhflgaa
set_option linter.unusedSimpArgs false
set_option linter.unusedVariables false
open Go.RowKit

/-- A slice that reads as a list, element by element: 'cf' gives an element's cells, 'sz' of them. -/
def Rds {α : Type} (cf : α → List Value) (sz : Nat) (w : World) (A : Option Addr) (xs : List α) : Prop :=
  ∀ i x, xs[i]? = some x → ∃ b off, A = some ⟨b, off, none⟩ ∧ b < w.heap.size ∧ ∀ j v, (cf x)[j]? = some v → w.cell? ⟨b, off + i * sz + j, none⟩ = some v
/-- Block g is a row of the call's own, of 'cap' elements, whose first ones are xs. -/
def OwnS {α : Type} (cf : α → List Value) (sz : Nat) (T : TypeId) (w : World) (g cap : Nat) (xs : List α) : Prop :=
  ∃ cur : Array Value, w.heap[g]? = some (.cells cur T (0, 0)) ∧ cur.size = cap * sz ∧ xs.length ≤ cap ∧ cap ≤ maxLen ∧ ∀ i x, xs[i]? = some x → ∀ j v, (cf x)[j]? = some v → cur[i * sz + j]? = some v
/-- A slice of the call's own: nil and empty, or at the head of a row of its own from block B on. -/
def FreshA {α : Type} (cf : α → List Value) (sz : Nat) (T : TypeId) (B : Nat) (w : World) (A : Option Addr) (cap : Nat) (xs : List α) : Prop :=
  (A = none ∧ xs = [] ∧ cap = 0) ∨ ∃ g, A = some ⟨g, 0, none⟩ ∧ B ≤ g ∧ OwnS cf sz T w g cap xs
def Lo (B : Nat) (A : Option Addr) : Prop := ∀ a, A = some a → B ≤ a.block
def Hi (n : Nat) (A : Option Addr) : Prop := ∀ a, A = some a → a.block < n
def blkO (A : Option Addr) : Option Nat := A.map (·.block)

section
variable {α : Type} {cf : α → List Value} {sz : Nat} {T : TypeId} {w w' : World} {A : Option Addr} {xs : List α} {g cap B : Nat}

theorem Rds.below (h : Rds cf sz w A xs) (hb : Below w.heap.size w w') : Rds cf sz w' A xs := by
  intro i x hx
  obtain ⟨b, off, hA, hlt, hc⟩ := h i x hx
  exact ⟨b, off, hA, Nat.lt_of_lt_of_le hlt hb.size, fun j v hv => (hb.cell (p := ⟨b, off + i * sz + j, none⟩) hlt).trans (hc j v hv)⟩
theorem Rds.nil : Rds cf sz w A [] := by
  intro i x hx
  simp at hx
theorem Rds.grown {row : Option Nat} (h : Rds cf sz w A xs) (hg : w.grownBy w' row) (hne : ∀ a, A = some a → some a.block ≠ row) : Rds cf sz w' A xs := by
  intro i x hx
  obtain ⟨b, off, hA, hlt, hc⟩ := h i x hx
  exact ⟨b, off, hA, Nat.lt_of_lt_of_le hlt hg.size, fun j v hv => (World.cell?_of_block (a := ⟨b, off + i * sz + j, none⟩) (hg.block b hlt (hne _ hA))).trans (hc j v hv)⟩
theorem OwnS.lt (h : OwnS cf sz T w g cap xs) : g < w.heap.size := by
  obtain ⟨cur, h1, _⟩ := h
  rcases Nat.lt_or_ge g w.heap.size with hl | hl
  · exact hl
  · rw [Array.getElem?_eq_none hl] at h1; cases h1
theorem OwnS.rds (h : OwnS cf sz T w g cap xs) : Rds cf sz w (some ⟨g, 0, none⟩) xs := by
  intro i x hx
  have hlt := h.lt
  obtain ⟨cur, h1, h2, h3, h4, h5⟩ := h
  refine ⟨g, 0, rfl, hlt, fun j v hv => ?_⟩
  have := h5 i x hx j v hv
  simp [World.cell?, h1, this]
theorem OwnS.block (h : OwnS cf sz T w g cap xs) (hb : w'.heap[g]? = w.heap[g]?) : OwnS cf sz T w' g cap xs := by
  obtain ⟨cur, h1, h2⟩ := h
  exact ⟨cur, hb.trans h1, h2⟩
theorem OwnS.below (h : OwnS cf sz T w g cap xs) (hb : Below w.heap.size w w') : OwnS cf sz T w' g cap xs := h.block (hb.block g h.lt)
theorem OwnS.grown {row : Option Nat} (h : OwnS cf sz T w g cap xs) (hg : w.grownBy w' row) (hne : some g ≠ row) : OwnS cf sz T w' g cap xs := h.block (hg.block g h.lt hne)
theorem OwnS.cell (h : OwnS cf sz T w g cap xs) (j : Nat) (hj : j < cap * sz) : ∃ v, w.cell? ⟨g, j, none⟩ = some v := by
  obtain ⟨cur, h1, h2, _⟩ := h
  exact ⟨cur[j]'(by omega), by simp [World.cell?, h1, h2, hj]⟩
theorem OwnS.frozen (h : OwnS cf sz T w g cap xs) (j : Nat) : w.frozen? ⟨g, j, none⟩ = false := by
  obtain ⟨cur, h1, _⟩ := h
  simp [World.frozen?, h1]
theorem OwnS.empty (h : OwnS cf sz T w g cap xs) : OwnS cf sz T w g cap ([] : List α) := by
  obtain ⟨cur, h1, h2, h3, h4, h5⟩ := h
  exact ⟨cur, h1, h2, Nat.zero_le _, h4, fun i x hx => by simp at hx⟩
theorem FreshA.rds (h : FreshA cf sz T B w A cap xs) : Rds cf sz w A xs := by
  rcases h with ⟨rfl, rfl, rfl⟩ | ⟨g, rfl, _, h⟩
  · exact Rds.nil
  · exact h.rds
theorem FreshA.lo (h : FreshA cf sz T B w A cap xs) : Lo B A := by
  rcases h with ⟨rfl, _, _⟩ | ⟨g, rfl, hB, _⟩
  · intro a ha; cases ha
  · intro a ha; cases ha; exact hB
theorem FreshA.hi (h : FreshA cf sz T B w A cap xs) : Hi w.heap.size A := by
  rcases h with ⟨rfl, _, _⟩ | ⟨g, rfl, _, h⟩
  · intro a ha; cases ha
  · intro a ha; cases ha; exact h.lt
theorem FreshA.below (h : FreshA cf sz T B w A cap xs) (hb : Below w.heap.size w w') : FreshA cf sz T B w' A cap xs := by
  rcases h with h | ⟨g, hA, hB, h⟩
  · exact .inl h
  · exact .inr ⟨g, hA, hB, h.below hb⟩
theorem FreshA.grown {row : Option Nat} (h : FreshA cf sz T B w A cap xs) (hg : w.grownBy w' row) (hne : ∀ a, A = some a → some a.block ≠ row) : FreshA cf sz T B w' A cap xs := by
  rcases h with h | ⟨g, rfl, hB, h⟩
  · exact .inl h
  · exact .inr ⟨g, rfl, hB, h.grown hg (hne _ rfl)⟩
theorem FreshA.mono {B' : Nat} (h : FreshA cf sz T B w A cap xs) (hB : B' ≤ B) : FreshA cf sz T B' w A cap xs := by
  rcases h with h | ⟨g, rfl, hg, h⟩
  · exact .inl h
  · exact .inr ⟨g, rfl, Nat.le_trans hB hg, h⟩
theorem Hi.mono {n m : Nat} (h : Hi n A) (hm : n ≤ m) : Hi m A := fun a ha => Nat.lt_of_lt_of_le (h a ha) hm
theorem Lo.mono {n m : Nat} (h : Lo n A) (hm : m ≤ n) : Lo m A := fun a ha => Nat.le_trans hm (h a ha)
/-- two slices of which one lies below, the other above -/
theorem apart_lh {A' : Option Addr} {n : Nat} (h : Hi n A) (h' : Lo n A') : ∀ a, A = some a → some a.block ≠ blkO A' := by
  intro a ha he
  cases hA' : A' with
  | none => rw [hA'] at he; cases he
  | some a' =>
    rw [hA'] at he
    have h1 := h a ha
    have h2 := h' a' hA'
    simp only [blkO, Option.map_some, Option.some.injEq] at he
    omega
theorem apart_hl {A' : Option Addr} {n : Nat} (h : Lo n A) (h' : Hi n A') : ∀ a, A = some a → some a.block ≠ blkO A' := by
  intro a ha he
  cases hA' : A' with
  | none => rw [hA'] at he; cases he
  | some a' =>
    rw [hA'] at he
    have h1 := h a ha
    have h2 := h' a' hA'
    simp only [blkO, Option.map_some, Option.some.injEq] at he
    omega
theorem below_grown {B : Nat} {a : World} (h : Below B a w) (hB : B ≤ w.heap.size) (hg : w.grownBy w' (blkO A)) (hl : Lo B A) : Below B a w' := by
  refine h.grown hg hB fun k hk => ?_
  cases hA : A with
  | none => rw [hA] at hk; cases hk
  | some x =>
    rw [hA] at hk
    simp only [blkO, Option.map_some, Option.some.injEq] at hk
    have := hl x hA
    omega

theorem flatMap_len (hcf : ∀ x, (cf x).length = sz) (xs : List α) : (xs.flatMap cf).length = xs.length * sz := by
  induction xs with
  | nil => simp
  | cons x xs ih => rw [List.flatMap_cons, List.length_append, hcf, ih, List.length_cons, Nat.succ_mul, Nat.add_comm]
theorem flatMap_at (hcf : ∀ x, (cf x).length = sz) : ∀ (xs : List α) (i : Nat) (x : α) (j : Nat), xs[i]? = some x → j < sz → (xs.flatMap cf)[i * sz + j]? = (cf x)[j]?
  | [], _, _, _, h, _ => by simp at h
  | y :: ys, 0, x, j, h, hj => by
    simp only [List.getElem?_cons_zero, Option.some.injEq] at h
    subst h
    rw [List.flatMap_cons, Nat.zero_mul, Nat.zero_add, List.getElem?_append_left (by rw [hcf]; exact hj)]
  | y :: ys, i + 1, x, j, h, hj => by
    simp only [List.getElem?_cons_succ] at h
    have e : (i + 1) * sz + j = sz + (i * sz + j) := by rw [Nat.succ_mul]; omega
    rw [List.flatMap_cons, e, List.getElem?_append_right (by rw [hcf]; omega), hcf, Nat.add_sub_cancel_left]
    exact flatMap_at hcf ys i x j h hj
theorem lt_of_cf (hcf : ∀ x, (cf x).length = sz) {x : α} {j : Nat} {v : Value} (h : (cf x)[j]? = some v) : j < sz := by
  rw [← hcf x]
  rcases Nat.lt_or_ge j (cf x).length with hl | hl
  · exact hl
  · rw [List.getElem?_eq_none hl] at h; cases h
theorem FreshA.of_own (hcf : ∀ x, (cf x).length = sz) {v : Value} (h : w.ownsRow B T sz v xs.length (xs.flatMap cf)) : ∃ A cap, v = .slice A xs.length cap ∧ FreshA cf sz T B w A cap xs := by
  obtain ⟨_, h⟩ := h
  rcases h with ⟨rfl, hn⟩ | ⟨g, cap, cur, rfl, hB, hh, hle, hm, hs, ht⟩
  · have : xs = [] := List.eq_nil_of_length_eq_zero hn
    subst this
    exact ⟨none, 0, rfl, .inl ⟨rfl, rfl, rfl⟩⟩
  · refine ⟨_, _, rfl, .inr ⟨g, rfl, hB, cur, hh, hs, hle, hm, fun i x hx j u hu => ?_⟩⟩
    have hj := lt_of_cf hcf hu
    have h1 := flatMap_at hcf xs i x j hx hj
    rw [← ht, hu] at h1
    have hi : i < xs.length := by
      rcases Nat.lt_or_ge i xs.length with hl | hl
      · exact hl
      · rw [List.getElem?_eq_none hl] at hx; cases hx
    have h2 : i * sz + j < xs.length * sz := by
      have : (i + 1) * sz ≤ xs.length * sz := Nat.mul_le_mul_right sz hi
      rw [Nat.succ_mul] at this
      omega
    rw [List.getElem?_take, if_pos h2] at h1
    simpa using h1
theorem OwnS.own (hcf : ∀ x, (cf x).length = sz) (hsz : 0 < sz) (h : OwnS cf sz T w g cap xs) (hB : B ≤ g) : w.ownsRow B T sz (.slice (some ⟨g, 0, none⟩) xs.length cap) xs.length (xs.flatMap cf) := by
  obtain ⟨cur, h1, h2, h3, h4, h5⟩ := h
  refine ⟨flatMap_len hcf xs, .inr ⟨g, cap, cur, rfl, hB, h1, h3, h4, h2, ?_⟩⟩
  refine List.ext_getElem? fun p => ?_
  rw [List.getElem?_take]
  by_cases hp : p < xs.length * sz
  · rw [if_pos hp]
    have hi : p / sz < xs.length := Nat.div_lt_of_lt_mul (by rw [Nat.mul_comm]; exact hp)
    have hj : p % sz < sz := Nat.mod_lt _ hsz
    have e : p / sz * sz + p % sz = p := by rw [Nat.mul_comm]; exact Nat.div_add_mod p sz
    have hx : xs[p / sz]? = some xs[p / sz] := List.getElem?_eq_getElem hi
    have hv : (cf xs[p / sz])[p % sz]? = some ((cf xs[p / sz])[p % sz]'(by rw [hcf]; exact hj)) := List.getElem?_eq_getElem _
    have h6 := h5 _ _ hx _ _ hv
    have h7 := flatMap_at hcf xs _ _ _ hx hj
    rw [e] at h6 h7
    rw [h7, hv]
    simpa using h6
  · rw [if_neg hp, List.getElem?_eq_none (by rw [flatMap_len hcf]; omega)]
theorem FreshA.own (hcf : ∀ x, (cf x).length = sz) (hsz : 0 < sz) (h : FreshA cf sz T B w A cap xs) : w.ownsRow B T sz (.slice A xs.length cap) xs.length (xs.flatMap cf) := by
  rcases h with ⟨rfl, rfl, rfl⟩ | ⟨g, rfl, hB, h⟩
  · exact World.ownsRow_nil w B T sz
  · exact h.own hcf hsz hB

theorem heap_setCell_self {cur : Array Value} {fr : Nat × Nat} (h : w.heap[g]? = some (.cells cur T fr)) (o : Nat) (u : Value) : (w.setCell ⟨g, o, none⟩ u).heap[g]? = some (.cells (cur.setIfInBounds o u) T fr) := by
  simp [World.setCell, Array.getElem?_modify, h]
def stores (w : World) (g : Nat) : Nat → List Value → World
  | _, [] => w
  | o, v :: vs => stores (w.setCell ⟨g, o, none⟩ v) g (o + 1) vs
theorem stores_heap : ∀ (vs : List Value) (w : World) (o : Nat) (cur : Array Value), w.heap[g]? = some (.cells cur T (0, 0)) → o + vs.length ≤ cur.size →
    ∃ cur' : Array Value, (stores w g o vs).heap[g]? = some (.cells cur' T (0, 0)) ∧ cur'.size = cur.size ∧ ∀ p, cur'[p]? = if o ≤ p ∧ p < o + vs.length then vs[p - o]? else cur[p]?
  | [], w, o, cur, h, _ => ⟨cur, h, rfl, fun p => by rw [if_neg (by simp only [List.length_nil]; omega)]⟩
  | v :: vs, w, o, cur, h, hl => by
    simp only [List.length_cons] at hl
    obtain ⟨cur', h1, h2, h3⟩ := stores_heap vs (w.setCell ⟨g, o, none⟩ v) (o + 1) _ (heap_setCell_self h o v) (by simp; omega)
    refine ⟨cur', h1, by simpa using h2, fun p => ?_⟩
    rw [h3]
    simp only [List.length_cons]
    by_cases hp : p = o
    · subst hp
      rw [if_neg (by omega), if_pos (by omega)]
      simp [show p < cur.size by omega]
    · by_cases hq : o + 1 ≤ p ∧ p < o + 1 + vs.length
      · rw [if_pos hq, if_pos (by omega), show p - o = (p - (o + 1)) + 1 by omega, List.getElem?_cons_succ]
      · rw [if_neg hq, if_neg (by omega), Array.getElem?_setIfInBounds_ne (fun e => hp e.symm)]
/-- one element more -/
theorem OwnS.push {x : α} (hcf : ∀ x, (cf x).length = sz) (h : OwnS cf sz T w g cap xs) (hlt : xs.length < cap) : OwnS cf sz T (stores w g (xs.length * sz) (cf x)) g cap (xs ++ [x]) := by
  obtain ⟨cur, h1, h2, h3, h4, h5⟩ := h
  have hroom : (xs.length + 1) * sz ≤ cap * sz := Nat.mul_le_mul_right sz hlt
  rw [Nat.succ_mul] at hroom
  obtain ⟨cur', e1, e2, e3⟩ := stores_heap (T := T) (cf x) w (xs.length * sz) cur h1 (by rw [hcf]; omega)
  refine ⟨cur', e1, e2.trans h2, by simp; omega, h4, fun i y hy j v hv => ?_⟩
  have hj := lt_of_cf hcf hv
  rw [e3, hcf]
  rw [List.getElem?_append] at hy
  split at hy
  · rename_i hi
    have : (i + 1) * sz ≤ xs.length * sz := Nat.mul_le_mul_right sz hi
    rw [Nat.succ_mul] at this
    rw [if_neg (by omega)]
    exact h5 i y hy j v hv
  · rename_i hi
    have hi' : i = xs.length := by
      rcases Nat.lt_or_ge (i - xs.length) 1 with h | h
      · omega
      · rw [List.getElem?_eq_none (by simpa using h)] at hy; cases hy
    subst hi'
    simp only [Nat.sub_self, List.getElem?_cons_zero, Option.some.injEq] at hy
    subst hy
    rw [if_pos (by omega), Nat.add_sub_cancel_left]
    exact hv
theorem OwnS.pushm {ys zs : List α} {x : α} {j : Nat} (hcf : ∀ x, (cf x).length = sz) (h : OwnS cf sz T w g cap ys) (hl : ys.length = j) (hs : zs = ys ++ [x]) (hj : j < cap) (hw : w' = stores w g (j * sz) (cf x)) : OwnS cf sz T w' g cap zs := by
  subst hl hs hw
  exact h.push hcf hj
theorem OwnS.pushk {k : Nat} (hcf : ∀ x, (cf x).length = sz) (h : OwnS cf sz T w g cap (xs.take k)) (hk : k < xs.length) (hc : xs.length ≤ cap) (hw : w' = stores w g (k * sz) (cf xs[k])) : OwnS cf sz T w' g cap (xs.take (k + 1)) :=
  h.pushm hcf (by rw [List.length_take]; omega) (List.take_succ_eq_append_getElem hk) (by omega) hw
theorem grown_set {a : World} (h : a.grownBy w (some g)) {o : Nat} {u : Value} : a.grownBy (w.setCell ⟨g, o, none⟩ u) (some g) :=
  ⟨h.os, h.tape, h.output, by simpa [World.setCell] using h.size, fun i hi hne => (Below.heap_setCell w ⟨g, o, none⟩ u i (fun e => hne (by rw [e]))).trans (h.block i hi hne)⟩
theorem make_run {P : Program} (t e : TypeId) (i : TypeInfo) (z : Value) (ht : P.underlying t = some (.slice e)) (hi : P.info? e = some i) (hz : i.zero = some z) (n : Nat) (hb : i.bytes * n ≤ 281474976710656) (hn : n ≤ 9223372036854775807) (w : World) :
    (Instr.makeSlice t (.int .i64 (n : Int)) (.int .i64 (n : Int))).run P w = .ok (.slice (some ⟨w.heap.size, 0, none⟩) n n) (w.alloc (.cells (madeCells z.cells (n * i.size)) e)) := by
  have hb' : (i.bytes : Int) * (n : Int) ≤ 281474976710656 := by
    have h : ((i.bytes * n : Nat) : Int) ≤ 281474976710656 := by omega
    rwa [Int.natCast_mul] at h
  have hr := run_make (P := P) (w := w) t e i z ht hi hz .i64 .i64 n n (by omega) (by omega) hb' (by omega)
  simpa only [Int.toNat_natCast] using hr
theorem stores_below {B : Nat} {a : World} : ∀ (vs : List Value) (w : World) (o : Nat), Below B a w → B ≤ g → Below B a (stores w g o vs)
  | [], _, _, h, _ => h
  | _ :: vs, _, _, h, hB => stores_below vs _ _ (h.setCell (p := ⟨g, _, none⟩) hB _) hB
end

/-- a fresh row that a helper made -/
def FreshRow {α : Type} (cf : α → List Value) (sz : Nat) (T : TypeId) (B : Nat) (xs : List α) (v : Value) (w : World) : Prop := ∃ g, v = .slice (some ⟨g, 0, none⟩) xs.length xs.length ∧ B ≤ g ∧ OwnS cf sz T w g xs.length xs
theorem FreshRow.stable {α : Type} {cf : α → List Value} {sz : Nat} {T : TypeId} {B : Nat} {xs : List α} : Stable (FreshRow cf sz T B xs) := fun _ _ _ h hb => by
  obtain ⟨g, h1, h2, h3⟩ := h
  exact ⟨g, h1, h2, h3.below hb⟩
theorem FreshRow.ltv {α : Type} {cf : α → List Value} {sz : Nat} {T : TypeId} {B : Nat} {xs : List α} {v : Value} {w : World} (h : FreshRow cf sz T B xs v w) : blkV v < w.heap.size := by
  obtain ⟨g, rfl, _, h3⟩ := h
  exact h3.lt
/-- 'out = append(out, y)' on a slice of the call's own, in this file's words -/
theorem wp_push {P : Program} {α : Type} {cf : α → List Value} {w : World} {o : Oper} {a : Act} {K : Act → World → Prop} {Q : Exit → Act → World → Prop} (s x : Operand) (t : TypeId)
    (ho : o.op = .call { callee := .builtin .append, args := #[s, x], argTypes := #[t, t] })
    (e : TypeId) (i : TypeInfo) (z : Value) (sz bytes : Nat) (ht : P.underlying t = some (.slice e)) (hi : P.info? e = some i) (hz : i.zero = some z)
    (hsize : i.size = sz) (hby : i.bytes = bytes) (hzs : z.cells.size = sz) (hsz : 0 < sz) (hcf : ∀ x, (cf x).length = sz) (hone : ∀ x, ∀ u ∈ cf x, u.oneCell' = true)
    (B : Nat) (A : Option Addr) (n cap : Nat) (xs : List α) (hn : xs.length = n) (hs : a.eval s = .slice A n cap) (hF : FreshA cf sz e B w A cap xs)
    (y : α) (gb c : Nat) (hx : a.eval x = .slice (some ⟨gb, 0, none⟩) 1 c) (hnews : ∀ j u, (cf y)[j]? = some u → w.cell? ⟨gb, j, none⟩ = some u)
    (h63 : n + 1 ≤ maxLen) (hbytes : (n + 1) * bytes ≤ 140737488355328) (hbase : B ≤ w.heap.size)
    (h : ∀ A' cap' w', FreshA cf sz e B w' A' cap' (xs ++ [y]) → w.grownBy w' (blkO A) → (blkO A' = blkO A ∨ blkO A' = some w.heap.size) → K (a.put o.dst (.slice A' (n + 1) cap')) w') : o.wp P a w K Q := by
  subst hn
  have hown := hF.own hcf hsz
  obtain ⟨v', w', hrun, hown', hg, _, hat⟩ := run_append_own_at (P := P) w B t o.type e i z sz bytes ht hi hz hsize hby hzs hsz _ _ _ hown ⟨gb, 0, none⟩ 1 c (cf y) (by rw [hcf, Nat.one_mul]) (fun j u hu => by
    have e : (⟨gb, 0, none⟩ : Addr).add j = ⟨gb, j, none⟩ := by
      unfold Addr.add
      by_cases hj : j = 0 <;> simp [hj]
    rw [e]
    exact hnews j u hu) (hone y) h63 hbytes hbase
  unfold Oper.wp execOp
  simp only [ho, resolve, invoke, builtin, Sem.run_bind, Sem.run_pure, Result.andThen_ok, List.map_toArray, List.map_cons, List.map_nil, hs, hx, hrun]
  have hl : (xs ++ [y]).length = xs.length + 1 := by simp
  have hown2 : w'.ownsRow B e sz v' (xs ++ [y]).length ((xs ++ [y]).flatMap cf) := by
    rw [hl, List.flatMap_append, List.flatMap_cons, List.flatMap_nil, List.append_nil]
    exact hown'
  obtain ⟨A', cap', rfl, hF'⟩ := FreshA.of_own hcf hown2
  have hb : ∀ (A : Option Addr) (n c : Nat), (Value.slice A n c).ownBlock = blkO A := fun A n c => by cases A <;> rfl
  rw [hb] at hg
  rw [hb, hb] at hat
  have := h A' cap' w' hF' hg hat
  rw [hl]
  exact this
theorem wpList_push {P : Program} {α : Type} {cf : α → List Value} {w : World} {ops : Array Oper} {rest : List Oper} {o : Oper} {a : Act} {Q : Exit → Act → World → Prop} (hgd : o.guard = none) (s x : Operand) (t : TypeId)
    (ho : o.op = .call { callee := .builtin .append, args := #[s, x], argTypes := #[t, t] })
    (e : TypeId) (i : TypeInfo) (z : Value) (sz bytes : Nat) (ht : P.underlying t = some (.slice e)) (hi : P.info? e = some i) (hz : i.zero = some z)
    (hsize : i.size = sz) (hby : i.bytes = bytes) (hzs : z.cells.size = sz) (hsz : 0 < sz) (hcf : ∀ x, (cf x).length = sz) (hone : ∀ x, ∀ u ∈ cf x, u.oneCell' = true)
    (B : Nat) (A : Option Addr) (n cap : Nat) (xs : List α) (hn : xs.length = n) (hs : a.eval s = .slice A n cap) (hF : FreshA cf sz e B w A cap xs)
    (y : α) (gb c : Nat) (hx : a.eval x = .slice (some ⟨gb, 0, none⟩) 1 c) (hnews : ∀ j u, (cf y)[j]? = some u → w.cell? ⟨gb, j, none⟩ = some u)
    (h63 : n + 1 ≤ maxLen) (hbytes : (n + 1) * bytes ≤ 140737488355328) (hbase : B ≤ w.heap.size)
    (h : ∀ A' cap' w', FreshA cf sz e B w' A' cap' (xs ++ [y]) → w.grownBy w' (blkO A) → (blkO A' = blkO A ∨ blkO A' = some w.heap.size) → wpList P ops Q rest (a.put o.dst (.slice A' (n + 1) cap')) w') : wpList P ops Q (o :: rest) a w :=
  wpList_plain hgd fun _ hK => wp_push s x t ho e i z sz bytes ht hi hz hsize hby hzs hsz hcf hone B A n cap xs hn hs hF y gb c hx hnews h63 hbytes hbase fun A' cap' w' h1 h2 h3 => hK _ _ (h A' cap' w' h1 h2 h3)
/-- block G is not the slice's own -/
def NeB (G : Nat) (A : Option Addr) : Prop := ∀ a, A = some a → a.block ≠ G
theorem NeB.next {G n : Nat} {A A' : Option Addr} (h : NeB G A) (hat : blkO A' = blkO A ∨ blkO A' = some n) (hn : G < n) : NeB G A' := by
  intro a ha
  rcases hat with e | e
  · rw [ha] at e
    cases hA : A with
    | none => rw [hA] at e; cases e
    | some a0 =>
      rw [hA] at e
      simp only [blkO, Option.map_some, Option.some.injEq] at e
      rw [e]
      exact h a0 hA
  · rw [ha] at e
    simp only [blkO, Option.map_some, Option.some.injEq] at e
    omega
theorem NeB.block {G : Nat} {A : Option Addr} {W w' : World} (h : NeB G A) (hg : W.grownBy w' (blkO A)) (hG : G < W.heap.size) : w'.heap[G]? = W.heap[G]? := by
  refine hg.block G hG fun e => ?_
  cases hA : A with
  | none => rw [hA] at e; cases e
  | some a =>
    rw [hA] at e
    simp only [blkO, Option.map_some, Option.some.injEq] at e
    exact h a hA e.symm
theorem NeB.cell {G : Nat} {A : Option Addr} {W w' : World} (h : NeB G A) (hg : W.grownBy w' (blkO A)) (hG : G < W.heap.size) (o : Nat) : w'.cell? ⟨G, o, none⟩ = W.cell? ⟨G, o, none⟩ := World.cell?_of_block (a := ⟨G, o, none⟩) (h.block hg hG)
theorem NeB.frozen {G : Nat} {A : Option Addr} {W w' : World} (h : NeB G A) (hg : W.grownBy w' (blkO A)) (hG : G < W.heap.size) (o : Nat) : w'.frozen? ⟨G, o, none⟩ = W.frozen? ⟨G, o, none⟩ := World.frozen?_of_block (a := ⟨G, o, none⟩) (h.block hg hG)
theorem cellGrown {W w' : World} {A : Option Addr} {B n : Nat} (hg : W.grownBy w' (blkO A)) (hl : Lo B A) (hh : Hi n A) : ∀ b o, w'.cell? ⟨b, o, none⟩ = if b < W.heap.size ∧ (b < B ∨ n ≤ b) then W.cell? ⟨b, o, none⟩ else far w' b o := by
  intro b o
  by_cases h : b < W.heap.size ∧ (b < B ∨ n ≤ b)
  · rw [if_pos h]
    refine World.cell?_of_block (a := ⟨b, o, none⟩) (hg.block b h.1 fun e => ?_)
    cases hA : A with
    | none => rw [hA] at e; cases e
    | some a =>
      rw [hA] at e
      simp only [blkO, Option.map_some, Option.some.injEq] at e
      have h1 := hl a hA
      have h2 := hh a hA
      omega
  · rw [if_neg h]; rfl
theorem frozGrown {W w' : World} {A : Option Addr} {B n : Nat} (hg : W.grownBy w' (blkO A)) (hl : Lo B A) (hh : Hi n A) : ∀ b o, w'.frozen? ⟨b, o, none⟩ = if b < W.heap.size ∧ (b < B ∨ n ≤ b) then W.frozen? ⟨b, o, none⟩ else farz w' b o := by
  intro b o
  by_cases h : b < W.heap.size ∧ (b < B ∨ n ≤ b)
  · rw [if_pos h]
    refine World.frozen?_of_block (a := ⟨b, o, none⟩) (hg.block b h.1 fun e => ?_)
    cases hA : A with
    | none => rw [hA] at e; cases e
    | some a =>
      rw [hA] at e
      simp only [blkO, Option.map_some, Option.some.injEq] at e
      have h1 := hl a hA
      have h2 := hh a hA
      omega
  · rw [if_neg h]; rfl
theorem below_of_grown {W w' : World} {A : Option Addr} {B : Nat} (hg : W.grownBy w' (blkO A)) (hl : Lo B A) (hB : B ≤ W.heap.size) : Below B W w' := below_grown (Below.refl B W) hB hg hl
theorem OwnS.set_far {α : Type} {cf : α → List Value} {sz : Nat} {T : TypeId} {w : World} {g cap : Nat} {xs : List α} (h : OwnS cf sz T w g cap xs) {p : Addr} (hp : g ≠ p.block) (u : Value) : OwnS cf sz T (w.setCell p u) g cap xs := h.block (Below.heap_setCell w p u g hp)
theorem FreshA.set_low {α : Type} {cf : α → List Value} {sz : Nat} {T : TypeId} {B cap : Nat} {w : World} {A : Option Addr} {xs : List α} (h : FreshA cf sz T B w A cap xs) {p : Addr} (hp : p.block < B) (u : Value) : FreshA cf sz T B (w.setCell p u) A cap xs := by
  rcases h with h | ⟨g, hA, hB, h⟩
  · exact .inl h
  · exact .inr ⟨g, hA, hB, h.set_far (by omega) u⟩
/-- a tuple whose first is a slice of the callee's own -/
def TupS {α : Type} (cf : α → List Value) (sz : Nat) (T : TypeId) (B : Nat) (L : List α) (rest : List Value) (v : Value) (w : World) : Prop := ∃ A cap, v = .tuple (Value.slice A L.length cap :: rest).toArray ∧ FreshA cf sz T B w A cap L
theorem TupS.stable {α : Type} {cf : α → List Value} {sz : Nat} {T : TypeId} {B : Nat} {L : List α} {rest : List Value} : Stable (TupS cf sz T B L rest) := fun _ _ _ h hb => by
  obtain ⟨A, cap, h1, h2⟩ := h
  exact ⟨A, cap, h1, h2.below hb⟩
def SlF {α : Type} (cf : α → List Value) (sz : Nat) (T : TypeId) (B : Nat) (L : List α) (v : Value) (w : World) : Prop := ∃ A cap, v = .slice A L.length cap ∧ FreshA cf sz T B w A cap L
theorem SlF.stable {α : Type} {cf : α → List Value} {sz : Nat} {T : TypeId} {B : Nat} {L : List α} : Stable (SlF cf sz T B L) := fun _ _ _ h hb => by
  obtain ⟨A, cap, h1, h2⟩ := h
  exact ⟨A, cap, h1, h2.below hb⟩
/-- what reads below survives a write into a row from n on -/
theorem Rds.past {α : Type} {cf : α → List Value} {sz : Nat} {w0 W W' : World} {A Ax : Option Addr} {xs : List α} {n : Nat} (h : Rds cf sz w0 A xs) (hb : Below w0.heap.size w0 W) (hg : W.grownBy W' (blkO Ax)) (hl : Lo n Ax) (hn : w0.heap.size ≤ n) : Rds cf sz W' A xs := by
  intro i x hx
  obtain ⟨b, off, hA, hlt, hc⟩ := h i x hx
  have hne : some b ≠ blkO Ax := by
    intro e
    cases hAx : Ax with
    | none => rw [hAx] at e; cases e
    | some a =>
      rw [hAx] at e
      simp only [blkO, Option.map_some, Option.some.injEq] at e
      have := hl a hAx
      omega
  have hW : b < W.heap.size := Nat.lt_of_lt_of_le hlt hb.size
  refine ⟨b, off, hA, Nat.lt_of_lt_of_le hW hg.size, fun j v hv => ?_⟩
  have h1 := World.cell?_of_block (a := ⟨b, off + i * sz + j, none⟩) (hg.block b hW hne)
  have h2 := hb.cell (p := ⟨b, off + i * sz + j, none⟩) hlt
  exact (h1.trans h2).trans (hc j v hv)
theorem FreshA.set_ne {α : Type} {cf : α → List Value} {sz : Nat} {T : TypeId} {B cap G : Nat} {w : World} {A : Option Addr} {xs : List α} (h : FreshA cf sz T B w A cap xs) (hne : NeB G A) (o : Nat) (u : Value) : FreshA cf sz T B (w.setCell ⟨G, o, none⟩ u) A cap xs := by
  rcases h with h | ⟨g, hA, hB, h⟩
  · exact .inl h
  · exact .inr ⟨g, hA, hB, h.set_far (p := ⟨G, o, none⟩) (hne _ hA) u⟩
/-- reads as a list, all its cells below block n -/
def RdsN {α : Type} (n : Nat) (cf : α → List Value) (sz : Nat) (w : World) (A : Option Addr) (xs : List α) : Prop :=
  ∀ i x, xs[i]? = some x → ∃ b off, A = some ⟨b, off, none⟩ ∧ b < n ∧ ∀ j v, (cf x)[j]? = some v → w.cell? ⟨b, off + i * sz + j, none⟩ = some v
theorem Rds.toN {α : Type} {cf : α → List Value} {sz : Nat} {w : World} {A : Option Addr} {xs : List α} (h : Rds cf sz w A xs) : RdsN w.heap.size cf sz w A xs := h
theorem RdsN.rds {α : Type} {n : Nat} {cf : α → List Value} {sz : Nat} {w : World} {A : Option Addr} {xs : List α} (h : RdsN n cf sz w A xs) (hn : n ≤ w.heap.size) : Rds cf sz w A xs := by
  intro i x hx
  obtain ⟨b, off, hA, hlt, hc⟩ := h i x hx
  exact ⟨b, off, hA, by omega, hc⟩
theorem RdsN.past {α : Type} {cf : α → List Value} {sz : Nat} {w0 W W' : World} {A Ax : Option Addr} {xs : List α} {m n : Nat} (h : RdsN m cf sz w0 A xs) (hm : m ≤ w0.heap.size) (hb : Below w0.heap.size w0 W) (hg : W.grownBy W' (blkO Ax)) (hl : Lo n Ax) (hn : m ≤ n) : RdsN m cf sz W' A xs := by
  intro i x hx
  obtain ⟨b, off, hA, hlt, hc⟩ := h i x hx
  have hne : some b ≠ blkO Ax := by
    intro e
    cases hAx : Ax with
    | none => rw [hAx] at e; cases e
    | some a =>
      rw [hAx] at e
      simp only [blkO, Option.map_some, Option.some.injEq] at e
      have := hl a hAx
      omega
  have hW : b < W.heap.size := by have := hb.size; omega
  refine ⟨b, off, hA, hlt, fun j v hv => ?_⟩
  have h1 := World.cell?_of_block (a := ⟨b, off + i * sz + j, none⟩) (hg.block b hW hne)
  have h2 := hb.cell (p := ⟨b, off + i * sz + j, none⟩) (by show b < _; omega)
  exact (h1.trans h2).trans (hc j v hv)
theorem RdsN.ofHi {α : Type} {n : Nat} {cf : α → List Value} {sz : Nat} {w : World} {A : Option Addr} {xs : List α} (h : Rds cf sz w A xs) (hh : Hi n A) : RdsN n cf sz w A xs := by
  intro i x hx
  obtain ⟨b, off, hA, _, hc⟩ := h i x hx
  exact ⟨b, off, hA, hh _ hA, hc⟩

theorem hid {p : Prop} (h : p) : Hid p := h

def idxF {α : Type} (p : α → Bool) (xs : List α) : Int := match xs.findIdx? p with | some i => (i : Int) | none => -1
theorem idxF_hit {α : Type} {p : α → Bool} {xs : List α} {k : Nat} (hl : (xs.take k).any p = false) (h : k < xs.length) (hp : p xs[k] = true) : idxF p xs = k := by
  have : xs.findIdx? p = some k := by
    rw [List.findIdx?_eq_some_iff_getElem]
    refine ⟨h, hp, fun j hj => ?_⟩
    rw [List.any_eq_false] at hl
    have := hl xs[j] (List.mem_take_iff_getElem.2 ⟨j, by omega, rfl⟩)
    simpa using this
  simp [idxF, this]
theorem idxF_none {α : Type} {p : α → Bool} {xs : List α} (hl : xs.any p = false) : idxF p xs = -1 := by
  have : xs.findIdx? p = none := by
    rw [List.findIdx?_eq_none_iff]
    rw [List.any_eq_false] at hl
    intro x hx
    simpa using hl x hx
  simp [idxF, this]
theorem idxF_any {α : Type} (p : α → Bool) (xs : List α) : (0 ≤ idxF p xs) ↔ xs.any p = true := by
  cases h : xs.any p with
  | false => rw [idxF_none h]; simp
  | true =>
    unfold idxF
    cases hf : xs.findIdx? p with
    | none =>
      rw [List.findIdx?_eq_none_iff] at hf
      rw [List.any_eq_true] at h
      obtain ⟨x, hx, hp⟩ := h
      rw [hf x hx] at hp; cases hp
    | some i => simp
theorem any_snoc {α : Type} (p : α → Bool) (xs : List α) (k : Nat) (h : k < xs.length) : (xs.take (k + 1)).any p = ((xs.take k).any p || p xs[k]) := by
  rw [List.take_succ_eq_append_getElem h, List.any_append]; simp
theorem any_hit {α : Type} {p : α → Bool} {xs : List α} {k : Nat} (h : k < xs.length) (hp : p xs[k] = true) : xs.any p = true := by
  rw [List.any_eq_true]; exact ⟨xs[k], List.getElem_mem h, hp⟩

end Go.Proofs.Ytfipmalomhflgaa
namespace Go.Proofs.Ytfipmalomhflgaa
set_option linter.unusedSimpArgs false
set_option linter.unusedVariables false
open Go.RowKit

def goodI (a b : Int) : Bool := decide (0 ≤ a ∧ a ≤ b ∧ b ≤ 9999)
theorem goodI_bd {a b : Int} (h : goodI a b = true) : 0 ≤ a ∧ a ≤ b ∧ b ≤ 9999 := by simpa [goodI] using h
def minB (a : Int) : Bool := decide (0 ≤ a ∧ a ≤ 9999)
theorem minB_bd {a : Int} (h : minB a = true) : 0 ≤ a ∧ a ≤ 9999 := by simpa [minB] using h
def inB (a b c : Int) : Bool := decide (b ≤ a ∧ a ≤ c)
theorem inB_bd {a b c : Int} (h : inB a b c = true) : b ≤ a ∧ a ≤ c := by simpa [inB] using h

end Go.Proofs.Ytfipmalomhflgaa
namespace Go.Proofs.Ytfipmalomhflgaa
set_option linter.unusedSimpArgs false
set_option linter.unusedVariables false
open Go.RowKit

def vAt {α : Type} (good : α → Bool) (lt : α → α → Bool) (xs : List α) (k : Nat) : Bool :=
  match xs[k]? with
  | some x => good x && (match k with | 0 => true | k' + 1 => (match xs[k']? with | some y => lt y x | none => true))
  | none => true
def vB {α : Type} (good : α → Bool) (lt : α → α → Bool) (n : Nat) (xs : List α) : Bool := (List.range xs.length).all (vAt good lt xs) && decide (xs.length ≤ n)
section
variable {α : Type} {good : α → Bool} {lt : α → α → Bool} {n : Nat} {xs : List α}
theorem vAt_zero (h : 0 < xs.length) : vAt good lt xs 0 = good xs[0] := by simp [vAt, h]
theorem vAt_succ (k : Nat) (h : k + 1 < xs.length) : vAt good lt xs (k + 1) = (good xs[k + 1] && lt xs[k] xs[k + 1]) := by
  have h' : k < xs.length := by omega
  simp [vAt, h, h']
theorem vB_bad {k : Nat} (h : k < xs.length) (hv : vAt good lt xs k = false) : vB good lt n xs = false := by
  have : (List.range xs.length).all (vAt good lt xs) = false := by
    rw [List.all_eq_false]
    exact ⟨k, List.mem_range.2 h, by simp [hv]⟩
  simp [vB, this]
theorem vB_all (h : ∀ j, j < xs.length → vAt good lt xs j = true) : vB good lt n xs = decide (xs.length ≤ n) := by
  have : (List.range xs.length).all (vAt good lt xs) = true := by
    rw [List.all_eq_true]
    exact fun j hj => h j (List.mem_range.1 hj)
  simp [vB, this]
theorem vB_long (h : n < xs.length) : vB good lt n xs = false := by
  simp only [vB, Bool.and_eq_false_iff, decide_eq_false_iff_not]
  right
  omega
theorem vB_len (h : vB good lt n xs = true) : xs.length ≤ n := by
  simp only [vB, Bool.and_eq_true, decide_eq_true_eq] at h
  exact h.2
theorem vB_at (h : vB good lt n xs = true) (k : Nat) (hk : k < xs.length) : good xs[k] = true := by
  simp only [vB, Bool.and_eq_true, List.all_eq_true, List.mem_range] at h
  have := h.1 k hk
  cases k with
  | zero => rwa [vAt_zero hk] at this
  | succ k => rw [vAt_succ k hk, Bool.and_eq_true] at this; exact this.1
theorem vB_lt (h : vB good lt n xs = true) (k : Nat) (hk : k + 1 < xs.length) : lt xs[k] xs[k + 1] = true := by
  simp only [vB, Bool.and_eq_true, List.all_eq_true, List.mem_range] at h
  have := h.1 (k + 1) hk
  rw [vAt_succ k hk, Bool.and_eq_true] at this
  exact this.2
/-- all elements of a list that reads -/
theorem Rds.all {cf : α → List Value} {sz : Nat} {w : World} {A : Option Addr} (h : Rds cf sz w A xs) (h0 : 0 < xs.length) :
    ∃ b off, A = some ⟨b, off, none⟩ ∧ b < w.heap.size ∧ ∀ i (hi : i < xs.length) j v, (cf xs[i])[j]? = some v → w.cell? ⟨b, off + i * sz + j, none⟩ = some v := by
  obtain ⟨b, off, hA, hb, _⟩ := h 0 xs[0] (List.getElem?_eq_getElem h0)
  refine ⟨b, off, hA, hb, fun i hi j v hv => ?_⟩
  obtain ⟨b', off', hA', _, hc⟩ := h i xs[i] (List.getElem?_eq_getElem hi)
  rw [hA] at hA'
  cases hA'
  exact hc j v hv
end

end Go.Proofs.Ytfipmalomhflgaa
namespace Go.Proofs.Ytfipmalomhflgaa
set_option linter.unusedSimpArgs false
set_option linter.unusedVariables false
open Go.RowKit

def cBer (x : (Int × Int × Int × Int × Int)) : List Value := [.int .i64 (x.1), .int .i64 (x.2.1), .int .i64 (x.2.2.1), .int .i64 (x.2.2.2.1), .int .i64 (x.2.2.2.2)]
theorem cBer_len (x : (Int × Int × Int × Int × Int)) : (cBer x).length = 5 := rfl

def mkBer (n : Nat) (k : Int) : List (Int × Int × Int × Int × Int) := (List.range n).map fun (i : Nat) => (k + 5 * (i : Int), k + 5 * (i : Int) + 1, k + 5 * (i : Int) + 2, k + 5 * (i : Int) + 3, k + 5 * (i : Int) + 4)

theorem mkBer_len (n : Nat) (k : Int) : (mkBer n k).length = n := by simp [mkBer]
theorem mkBer_at (n : Nat) (k : Int) (j : Nat) (h : j < n) (h' : j < (mkBer n k).length) : (mkBer n k)[j] = (k + 5 * (j : Int), k + 5 * (j : Int) + 1, k + 5 * (j : Int) + 2, k + 5 * (j : Int) + 3, k + 5 * (j : Int) + 4) := by simp [mkBer]

theorem mkBer_snoc (j : Nat) (k : Int) : mkBer (j + 1) k = mkBer j k ++ [(k + 5 * (j : Int), k + 5 * (j : Int) + 1, k + 5 * (j : Int) + 2, k + 5 * (j : Int) + 3, k + 5 * (j : Int) + 4)] := by simp [mkBer, List.range_succ]

theorem news_Ber (w : World) (g : Nat) (x : (Int × Int × Int × Int × Int)) (h0 : w.cell? ⟨g, 0, none⟩ = some (.int .i64 (x.1))) (h1 : w.cell? ⟨g, 1, none⟩ = some (.int .i64 (x.2.1))) (h2 : w.cell? ⟨g, 2, none⟩ = some (.int .i64 (x.2.2.1))) (h3 : w.cell? ⟨g, 3, none⟩ = some (.int .i64 (x.2.2.2.1))) (h4 : w.cell? ⟨g, 4, none⟩ = some (.int .i64 (x.2.2.2.2))) : ∀ j u, (cBer x)[j]? = some u → w.cell? ⟨g, j, none⟩ = some u := by
  intro j u hu
  match j, hu with
  | 0, hu => cases hu; exact h0
  | 1, hu => cases hu; exact h1
  | 2, hu => cases hu; exact h2
  | 3, hu => cases hu; exact h3
  | 4, hu => cases hu; exact h4
  | j + 5, hu => simp [cBer] at hu

theorem one_Ber : ∀ x, ∀ u ∈ cBer x, u.oneCell' = true := by
  intro x u hu
  simp [cBer] at hu
  rcases hu with rfl | rfl | rfl | rfl | rfl <;> rfl

def cIn (x : (Int)) : List Value := [.int .i64 (x)]
theorem cIn_len (x : (Int)) : (cIn x).length = 1 := rfl

def mkIn (n : Nat) (k : Int) : List (Int) := (List.range n).map fun (i : Nat) => (k + (i : Int))

theorem mkIn_len (n : Nat) (k : Int) : (mkIn n k).length = n := by simp [mkIn]
theorem mkIn_at (n : Nat) (k : Int) (j : Nat) (h : j < n) (h' : j < (mkIn n k).length) : (mkIn n k)[j] = (k + (j : Int)) := by simp [mkIn]

theorem mkIn_snoc (j : Nat) (k : Int) : mkIn (j + 1) k = mkIn j k ++ [(k + (j : Int))] := by simp [mkIn, List.range_succ]

theorem news_In (w : World) (g : Nat) (x : (Int)) (h0 : w.cell? ⟨g, 0, none⟩ = some (.int .i64 (x))) : ∀ j u, (cIn x)[j]? = some u → w.cell? ⟨g, j, none⟩ = some u := by
  intro j u hu
  match j, hu with
  | 0, hu => cases hu; exact h0
  | j + 1, hu => simp [cIn] at hu

theorem one_In : ∀ x, ∀ u ∈ cIn x, u.oneCell' = true := by
  intro x u hu
  simp [cIn] at hu
  subst hu
  rfl

def berB (q i c l f t : Int) : Bool := decide (1 ≤ i ∧ i ≤ 99 ∧ 0 ≤ c ∧ 1 ≤ l ∧ c + l ≤ q ∧ 0 ≤ f ∧ f < t ∧ t ≤ 500)
theorem berB_bd {q i c l f t : Int} (h : berB q i c l f t = true) : 1 ≤ i ∧ i ≤ 99 ∧ 0 ≤ c ∧ 1 ≤ l ∧ c + l ≤ q ∧ 0 ≤ f ∧ f < t ∧ t ≤ 500 := by simpa [berB] using h
def berOk (q : Int) (x : Int × Int × Int × Int × Int) : Bool := berB q x.1 x.2.1 x.2.2.1 x.2.2.2.1 x.2.2.2.2
def crashB (c l f t c' l' f' t' : Int) : Bool := decide (c < c' + l' ∧ c' < c + l ∧ f < t' ∧ f' < t)
def crash (c l f t : Int) (x : Int × Int × Int × Int × Int) : Bool := crashB x.2.1 x.2.2.1 x.2.2.2.1 x.2.2.2.2 c l f t
def meets (xs : List (Int × Int × Int × Int × Int)) (c l f t : Int) : Bool := xs.any (crash c l f t)
def berAt (q : Int) (xs : List (Int × Int × Int × Int × Int)) (k : Nat) : Bool :=
  match xs[k]? with
  | some x => berOk q x && (match k with | 0 => true | k' + 1 => (match xs[k']? with | some y => decide (y.1 < x.1) | none => true)) && !(meets (xs.take k) x.2.1 x.2.2.1 x.2.2.2.1 x.2.2.2.2)
  | none => true
def berV (q : Int) (xs : List (Int × Int × Int × Int × Int)) : Bool := inB q 1 20 && (List.range xs.length).all (berAt q xs) && decide (xs.length ≤ 10)
section
variable {q : Int} {xs : List (Int × Int × Int × Int × Int)}
theorem berAt_zero (h : 0 < xs.length) : berAt q xs 0 = berOk q xs[0] := by simp [berAt, h, meets]
theorem berAt_succ (k : Nat) (h : k + 1 < xs.length) : berAt q xs (k + 1) = (berOk q xs[k + 1] && decide (xs[k].1 < xs[k + 1].1) && !(meets (xs.take (k + 1)) xs[k + 1].2.1 xs[k + 1].2.2.1 xs[k + 1].2.2.2.1 xs[k + 1].2.2.2.2)) := by
  have h' : k < xs.length := by omega
  simp [berAt, h, h']
theorem berV_quay (h : berV q xs = true) : inB q 1 20 = true := by
  simp only [berV, Bool.and_eq_true] at h
  exact h.1.1
theorem berV_noquay (h : inB q 1 20 = false) : berV q xs = false := by simp [berV, h]
theorem berV_bad {k : Nat} (h : k < xs.length) (hv : berAt q xs k = false) : berV q xs = false := by
  have : (List.range xs.length).all (berAt q xs) = false := by
    rw [List.all_eq_false]
    exact ⟨k, List.mem_range.2 h, by simp [hv]⟩
  simp [berV, this]
theorem berV_all (hq : inB q 1 20 = true) (h : ∀ j, j < xs.length → berAt q xs j = true) : berV q xs = decide (xs.length ≤ 10) := by
  have : (List.range xs.length).all (berAt q xs) = true := by
    rw [List.all_eq_true]
    exact fun j hj => h j (List.mem_range.1 hj)
  simp [berV, this, hq]
theorem berV_long (h : 10 < xs.length) : berV q xs = false := by
  simp only [berV, Bool.and_eq_false_iff, decide_eq_false_iff_not]
  right
  omega
theorem berV_len (h : berV q xs = true) : xs.length ≤ 10 := by
  simp only [berV, Bool.and_eq_true, decide_eq_true_eq] at h
  exact h.2
theorem berV_ats (h : berV q xs = true) (k : Nat) (hk : k < xs.length) : berAt q xs k = true := by
  simp only [berV, Bool.and_eq_true, List.all_eq_true, List.mem_range] at h
  exact h.1.2 k hk
theorem berAt_ok {k : Nat} (hk : k < xs.length) (h : berAt q xs k = true) : berOk q xs[k] = true := by
  cases k with
  | zero => rwa [berAt_zero hk] at h
  | succ k =>
    rw [berAt_succ k hk] at h
    simp only [Bool.and_eq_true] at h
    exact h.1.1
theorem berAt_lt {k : Nat} (hk : k + 1 < xs.length) (h : berAt q xs (k + 1) = true) : xs[k].1 < xs[k + 1].1 := by
  rw [berAt_succ k hk] at h
  simp only [Bool.and_eq_true, decide_eq_true_eq] at h
  exact h.1.2
theorem berAt_free {k : Nat} (hk : k < xs.length) (h : berAt q xs k = true) : meets (xs.take k) xs[k].2.1 xs[k].2.2.1 xs[k].2.2.2.1 xs[k].2.2.2.2 = false := by
  cases k with
  | zero => simp [meets]
  | succ k =>
    rw [berAt_succ k hk] at h
    simp only [Bool.and_eq_true, Bool.not_eq_true'] at h
    exact h.2
theorem berV_at (h : berV q xs = true) (k : Nat) (hk : k < xs.length) : berOk q xs[k] = true := berAt_ok hk (berV_ats h k hk)
theorem berV_mem (h : berV q xs = true) : ∀ x ∈ xs, berOk q x = true := by
  intro x hx
  obtain ⟨i, hi, rfl⟩ := List.getElem_of_mem hx
  exact berV_at h i hi
theorem berV_lt (h : berV q xs = true) (k : Nat) (hk : k + 1 < xs.length) : xs[k].1 < xs[k + 1].1 := berAt_lt hk (berV_ats h _ hk)
end
/-- what a contract needs of a berth that is held against another: its length and its stay are at least one, all small -/
def berP (x : Int × Int × Int × Int × Int) : Prop := 0 ≤ x.2.1 ∧ x.2.1 ≤ 20 ∧ 1 ≤ x.2.2.1 ∧ x.2.2.1 ≤ 20 ∧ 0 ≤ x.2.2.2.1 ∧ x.2.2.2.1 < x.2.2.2.2 ∧ x.2.2.2.2 ≤ 500
theorem berOk_bd {q : Int} {x : Int × Int × Int × Int × Int} (h : berOk q x = true) : 1 ≤ x.1 ∧ x.1 ≤ 99 ∧ 0 ≤ x.2.1 ∧ 1 ≤ x.2.2.1 ∧ x.2.1 + x.2.2.1 ≤ q ∧ 0 ≤ x.2.2.2.1 ∧ x.2.2.2.1 < x.2.2.2.2 ∧ x.2.2.2.2 ≤ 500 := berB_bd h
theorem berOk_P {q : Int} {x : Int × Int × Int × Int × Int} (hq : inB q 1 20 = true) (h : berOk q x = true) : berP x := by
  have h1 := berOk_bd h
  have h2 := inB_bd hq
  unfold berP
  omega
theorem berV_P {q : Int} {xs : List (Int × Int × Int × Int × Int)} (h : berV q xs = true) : ∀ k (hk : k < xs.length), berP xs[k] := fun k hk => berOk_P (berV_quay h) (berV_at h k hk)
/-- the hours that all vessels lie at all cells -/
def hoursS (s : Int) (x : Int × Int × Int × Int × Int) : Int := s + x.2.2.1 * (x.2.2.2.2 - x.2.2.2.1)
def hoursTo (xs : List (Int × Int × Int × Int × Int)) (k : Nat) : Int := (xs.take k).foldl hoursS 0
theorem hoursTo_succ (xs : List (Int × Int × Int × Int × Int)) (k : Nat) (h : k < xs.length) : hoursTo xs (k + 1) = hoursTo xs k + xs[k].2.2.1 * (xs[k].2.2.2.2 - xs[k].2.2.2.1) := by
  unfold hoursTo
  rw [List.take_succ_eq_append_getElem h, List.foldl_append]; rfl
def hoursV (q : Int) (xs : List (Int × Int × Int × Int × Int)) : Int × Bool := if berV q xs = true then (hoursTo xs xs.length, true) else (0, false)
theorem mulB {l d : Int} (hl : 0 ≤ l ∧ l ≤ 20) (hd : 0 ≤ d ∧ d ≤ 500) : 0 ≤ l * d ∧ l * d ≤ 10000 := by
  constructor
  · exact Int.mul_nonneg hl.1 hd.1
  · have h1 := Int.mul_le_mul hl.2 hd.2 hd.1 (by omega)
    omega
theorem hoursTo_bd {q : Int} {xs : List (Int × Int × Int × Int × Int)} (h : berV q xs = true) : ∀ k : Nat, k ≤ xs.length → 0 ≤ hoursTo xs k ∧ hoursTo xs k ≤ 10000 * k
  | 0, _ => by simp [hoursTo]
  | k + 1, hk => by
    have ih := hoursTo_bd h k (by omega)
    have hlt : k < xs.length := by omega
    have hb := berOk_bd (berV_at h k hlt)
    have hq := inB_bd (berV_quay h)
    rw [hoursTo_succ xs k hlt]
    have := mulB (l := xs[k].2.2.1) (d := xs[k].2.2.2.2 - xs[k].2.2.2.1) (by omega) (by omega)
    omega
/-- a cell in an hour is free -/
def freeAt (xs : List (Int × Int × Int × Int × Int)) (c h : Int) : Bool := !meets xs c 1 h (h + 1)
def freeTo (xs : List (Int × Int × Int × Int × Int)) (h : Int) (n : Nat) : List Int := ((List.range n).filter fun c : Nat => freeAt xs c h).map fun c : Nat => (c : Int)
theorem freeTo_succ (xs : List (Int × Int × Int × Int × Int)) (h : Int) (n : Nat) : freeTo xs h (n + 1) = freeTo xs h n ++ (if freeAt xs n h = true then [(n : Int)] else []) := by
  unfold freeTo
  rw [List.range_succ, List.filter_append, List.map_append]
  by_cases hc : freeAt xs n h = true
  · simp [hc]
  · simp [hc]
theorem freeTo_len (xs : List (Int × Int × Int × Int × Int)) (h : Int) (n : Nat) : (freeTo xs h n).length ≤ n := by
  unfold freeTo
  rw [List.length_map]
  exact Nat.le_trans (List.length_filter_le _ _) (by simp)
def freeV (q : Int) (xs : List (Int × Int × Int × Int × Int)) (h : Int) : List Int × Bool := if berV q xs = true ∧ inB h 0 499 = true then (freeTo xs h q.toNat, true) else ([], false)
theorem freeV_len (q : Int) (xs : List (Int × Int × Int × Int × Int)) (h : Int) : (freeV q xs h).1.length ≤ 20 := by
  unfold freeV
  by_cases hv : berV q xs = true ∧ inB h 0 499 = true
  · rw [if_pos hv]
    have h1 := freeTo_len xs h q.toNat
    have h2 := inB_bd (berV_quay hv.1)
    simp only
    omega
  · rw [if_neg hv]; simp
/-- the first cell of the n first at which a vessel can lie from an hour on -/
def rowFree (xs : List (Int × Int × Int × Int × Int)) (l s h : Int) (n : Nat) : Option Nat := (List.range n).find? fun c : Nat => !meets xs c l h (h + s)
def earlyF (q : Int) (xs : List (Int × Int × Int × Int × Int)) (l s f : Int) : Option (Nat × Nat) :=
  (List.range (501 - s - f).toNat).findSome? fun j : Nat => (rowFree xs l s (f + j) (q - l + 1).toNat).map fun c => (j, c)
def earlyR (f : Int) (r : Option (Nat × Nat)) : Int × Int × Bool := match r with | some (j, c) => (f + j, (c : Int), true) | none => (0, 0, false)
def earlyV (q : Int) (xs : List (Int × Int × Int × Int × Int)) (l s f : Int) : Int × Int × Bool :=
  if berV q xs = true ∧ 1 ≤ l ∧ 1 ≤ s ∧ 0 ≤ f ∧ f ≤ 500 then earlyR f (earlyF q xs l s f) else (0, 0, false)
theorem find_range_hit {n : Nat} {p : Nat → Bool} {c : Nat} (hc : c < n) (hl : ∀ i, i < c → p i = false) (hp : p c = true) : (List.range n).find? p = some c := by
  rw [List.find?_eq_some_iff_getElem]
  refine ⟨hp, c, by simpa using hc, by simp, fun j hj => ?_⟩
  simp [hl j hj]
theorem find_range_none {n : Nat} {p : Nat → Bool} (hl : ∀ i, i < n → p i = false) : (List.range n).find? p = none := by
  rw [List.find?_eq_none]
  intro x hx
  simp [hl x (List.mem_range.1 hx)]
theorem rowFree_hit {xs : List (Int × Int × Int × Int × Int)} {l s h : Int} {n c : Nat} (hc : c < n) (hl : ∀ i : Nat, i < c → meets xs i l h (h + s) = true) (hp : meets xs c l h (h + s) = false) : rowFree xs l s h n = some c := by
  unfold rowFree
  exact find_range_hit hc (fun i hi => by simp [hl i hi]) (by simp [hp])
theorem rowFree_none {xs : List (Int × Int × Int × Int × Int)} {l s h : Int} {n : Nat} (hl : ∀ i : Nat, i < n → meets xs i l h (h + s) = true) : rowFree xs l s h n = none := by
  unfold rowFree
  exact find_range_none (fun i hi => by simp [hl i hi])
theorem findSome_range_hit {β : Type} {f : Nat → Option β} {c : Nat} {b : β} (hl : ∀ i, i < c → f i = none) (hp : f c = some b) : ∀ n, c < n → (List.range n).findSome? f = some b := by
  intro n
  induction n with
  | zero => intro h; exact absurd h (Nat.not_lt_zero _)
  | succ n ih =>
    intro h
    rw [List.range_succ, List.findSome?_append]
    by_cases hc : c < n
    · rw [ih hc]; rfl
    · have : c = n := by omega
      subst this
      have : (List.range c).findSome? f = none := by
        rw [List.findSome?_eq_none_iff]
        exact fun x hx => hl x (List.mem_range.1 hx)
      rw [this]
      simp [hp]
theorem earlyF_hit {q : Int} {xs : List (Int × Int × Int × Int × Int)} {l s f : Int} {j c : Nat} (hj : f + j + s ≤ 500) (hl : ∀ i : Nat, i < j → rowFree xs l s (f + i) (q - l + 1).toNat = none) (hp : rowFree xs l s (f + j) (q - l + 1).toNat = some c) : earlyF q xs l s f = some (j, c) := by
  unfold earlyF
  refine findSome_range_hit (c := j) (fun i hi => ?_) ?_ _ (by omega)
  · rw [hl i hi]; rfl
  · rw [hp]; rfl
theorem earlyF_none {q : Int} {xs : List (Int × Int × Int × Int × Int)} {l s f : Int} (hl : ∀ i : Nat, f + i + s ≤ 500 → rowFree xs l s (f + i) (q - l + 1).toNat = none) : earlyF q xs l s f = none := by
  unfold earlyF
  rw [List.findSome?_eq_none_iff]
  intro x hx
  have := List.mem_range.1 hx
  rw [hl x (by omega)]; rfl
theorem earlyF_big {q : Int} {xs : List (Int × Int × Int × Int × Int)} {l s f : Int} (h : q < l ∨ 500 < s + f) : earlyF q xs l s f = none := by
  rcases h with h | h
  · refine earlyF_none fun i _ => rowFree_none fun c hc => absurd hc (by omega)
  · refine earlyF_none fun i hi => absurd hi (by omega)
/-- best, most and the free hours that end with the last one seen -/
def longS (xs : List (Int × Int × Int × Int × Int)) (c : Int) (a : Int × Int × Int) (h : Nat) : Int × Int × Int :=
  let n := if freeAt xs c h = true then a.2.2 + 1 else 0
  if a.2.1 < n then ((h : Int) - n + 1, n, n) else (a.1, a.2.1, n)
def longTo (xs : List (Int × Int × Int × Int × Int)) (c : Int) (k : Nat) : Int × Int × Int := (List.range k).foldl (longS xs c) (0, 0, 0)
theorem longTo_succ (xs : List (Int × Int × Int × Int × Int)) (c : Int) (k : Nat) : longTo xs c (k + 1) = longS xs c (longTo xs c k) k := by
  unfold longTo
  rw [List.range_succ, List.foldl_append]; rfl
def longOk (k : Nat) (a : Int × Int × Int) : Prop := 0 ≤ a.1 ∧ a.1 ≤ k ∧ 0 ≤ a.2.1 ∧ a.2.1 ≤ k ∧ 0 ≤ a.2.2 ∧ a.2.2 ≤ k ∧ (a.2.1 = 0 → a.1 = 0)
theorem longTo_ok (xs : List (Int × Int × Int × Int × Int)) (c : Int) : ∀ k, longOk k (longTo xs c k)
  | 0 => by simp [longOk, longTo]
  | k + 1 => by
    have ih := longTo_ok xs c k
    rw [longTo_succ]
    generalize longTo xs c k = a at *
    unfold longOk longS at *
    by_cases hf : freeAt xs c k = true
    · simp only [hf, if_true]
      split <;> (simp only; omega)
    · simp only [hf, Bool.false_eq_true, if_false]
      split <;> first | omega | (simp only; omega)
def longV (q : Int) (xs : List (Int × Int × Int × Int × Int)) (c : Int) : Int × Int × Bool :=
  if berV q xs = true ∧ inB c 0 (q - 1) = true then ((longTo xs c 500).1, (longTo xs c 500).2.1, decide (0 < (longTo xs c 500).2.1)) else (0, 0, false)
/-- the cells that are taken in an hour -/
def usedS (h : Int) (s : Int) (x : Int × Int × Int × Int × Int) : Int := if x.2.2.2.1 ≤ h ∧ h ≤ x.2.2.2.2 - 1 then s + x.2.2.1 else s
def usedTo (xs : List (Int × Int × Int × Int × Int)) (h : Int) (k : Nat) : Int := (xs.take k).foldl (usedS h) 0
theorem usedTo_succ (xs : List (Int × Int × Int × Int × Int)) (h : Int) (k : Nat) (hk : k < xs.length) : usedTo xs h (k + 1) = usedS h (usedTo xs h k) xs[k] := by
  unfold usedTo
  rw [List.take_succ_eq_append_getElem hk, List.foldl_append]; rfl
def cnt (p : Nat → Bool) (n : Nat) : Nat := ((List.range n).filter p).length
theorem cnt_succ (p : Nat → Bool) (n : Nat) : cnt p (n + 1) = cnt p n + if p n = true then 1 else 0 := by
  unfold cnt
  rw [List.range_succ, List.filter_append, List.length_append]
  by_cases h : p n = true
  · simp [h]
  · simp [h]
theorem cnt_cut (p : Nat → Bool) (a b : Nat) (hab : a ≤ b) (hp : ∀ i, a ≤ i → i < b → p i = true) : ∀ n, cnt (fun i => p i && !(decide (a ≤ i ∧ i < b))) n + (min n b - min n a) = cnt p n
  | 0 => by simp [cnt]
  | n + 1 => by
    have ih := cnt_cut p a b hab hp n
    rw [cnt_succ, cnt_succ]
    by_cases h : a ≤ n ∧ n < b
    · have := hp n h.1 h.2
      simp only [this, h, and_self, decide_true, Bool.not_true, Bool.and_false]
      simp only [Bool.false_eq_true, if_false, if_true]
      omega
    · simp only [h, decide_false, Bool.not_false, Bool.and_true]
      omega
theorem meets_snoc (xs : List (Int × Int × Int × Int × Int)) (k : Nat) (hk : k < xs.length) (c l f t : Int) : meets (xs.take (k + 1)) c l f t = (meets (xs.take k) c l f t || crash c l f t xs[k]) := by
  unfold meets
  rw [List.take_succ_eq_append_getElem hk, List.any_append]; simp
theorem meets_hit {xs : List (Int × Int × Int × Int × Int)} {k m : Nat} {c l f t : Int} (hm : m < k) (hl : m < xs.length) (h : crash c l f t xs[m] = true) : meets (xs.take k) c l f t = true := by
  unfold meets
  rw [List.any_eq_true]
  exact ⟨xs[m], List.mem_take_iff_getElem.2 ⟨m, by omega, rfl⟩, h⟩
theorem crash_one {x : Int × Int × Int × Int × Int} {c h : Int} : crash c 1 h (h + 1) x = decide (x.2.1 ≤ c ∧ c < x.2.1 + x.2.2.1 ∧ x.2.2.2.1 ≤ h ∧ h ≤ x.2.2.2.2 - 1) := by
  unfold crash crashB
  congr 1
  simp only [eq_iff_iff]
  omega
theorem used_free {q : Int} {xs : List (Int × Int × Int × Int × Int)} (hv : berV q xs = true) (h : Int) : ∀ k, k ≤ xs.length → (cnt (fun c => freeAt (xs.take k) c h) q.toNat : Int) + usedTo xs h k = q ∧ 0 ≤ usedTo xs h k
  | 0, _ => by
    have hq := inB_bd (berV_quay hv)
    have : cnt (fun c => freeAt (xs.take 0) c h) q.toNat = q.toNat := by
      have he : (fun c : Nat => freeAt (xs.take 0) c h) = fun _ => true := by
        funext c
        simp [freeAt, meets]
      rw [he]
      unfold cnt
      rw [List.filter_eq_self.2 (fun _ _ => rfl)]
      simp
    rw [this]
    simp [usedTo]
    omega
  | k + 1, hk => by
    have ih := used_free hv h k (by omega)
    have hlt : k < xs.length := by omega
    have hfr := berAt_free hlt (berV_ats hv k hlt)
    have hok := berOk_bd (berV_at hv k hlt)
    rw [usedTo_succ xs h k hlt]
    have hs : ∀ c : Nat, freeAt (xs.take (k + 1)) c h = (freeAt (xs.take k) c h && !crash c 1 h (h + 1) xs[k]) := by
      intro c
      unfold freeAt
      rw [meets_snoc xs k hlt]
      simp
    generalize xs[k] = x at *
    unfold usedS
    by_cases hin : x.2.2.2.1 ≤ h ∧ h ≤ x.2.2.2.2 - 1
    · rw [if_pos hin]
      have he : (fun c : Nat => freeAt (xs.take (k + 1)) c h) = fun c : Nat => freeAt (xs.take k) c h && !(decide (x.2.1.toNat ≤ c ∧ c < (x.2.1 + x.2.2.1).toNat)) := by
        funext c
        rw [hs c, crash_one]
        congr 2
        simp only [decide_eq_decide]
        omega
      have hc := cnt_cut (fun c : Nat => freeAt (xs.take k) c h) x.2.1.toNat (x.2.1 + x.2.2.1).toNat (by omega) (fun i h1 h2 => by
        unfold freeAt
        cases hm : meets (xs.take k) i 1 h (h + 1) with
        | false => rfl
        | true =>
          exfalso
          unfold meets at hm hfr
          rw [List.any_eq_true] at hm
          obtain ⟨y, hy, hcy⟩ := hm
          rw [List.any_eq_false] at hfr
          refine hfr y hy ?_
          rw [crash_one] at hcy
          simp only [decide_eq_true_eq] at hcy
          simp only [crash, crashB, decide_eq_true_eq]
          omega) q.toNat
      rw [he]
      omega
    · rw [if_neg hin]
      have he : (fun c : Nat => freeAt (xs.take (k + 1)) c h) = fun c : Nat => freeAt (xs.take k) c h := by
        funext c
        rw [hs c, crash_one]
        have : decide (x.2.1 ≤ (c : Int) ∧ (c : Int) < x.2.1 + x.2.2.1 ∧ x.2.2.2.1 ≤ h ∧ h ≤ x.2.2.2.2 - 1) = false := by
          simp only [decide_eq_false_iff_not]
          omega
        rw [this]
        simp
      rw [he]
      omega
theorem freeTo_cnt (xs : List (Int × Int × Int × Int × Int)) (h : Int) (n : Nat) : (freeTo xs h n).length = cnt (fun c => freeAt xs c h) n := by simp [freeTo, cnt]
/-- an hour is full by the one count just if it is by the other -/
theorem full_iff {q : Int} {xs : List (Int × Int × Int × Int × Int)} (hv : berV q xs = true) (h : Int) : usedTo xs h xs.length = q ↔ (freeTo xs h q.toNat).length = 0 := by
  have h1 := used_free hv h xs.length (Nat.le_refl _)
  rw [List.take_length] at h1
  rw [freeTo_cnt]
  omega
theorem usedTo_bd {q : Int} {xs : List (Int × Int × Int × Int × Int)} (hv : berV q xs = true) (h : Int) (k : Nat) (hk : k ≤ xs.length) : 0 ≤ usedTo xs h k ∧ usedTo xs h k ≤ 20 := by
  have h1 := used_free hv h k hk
  have h2 := inB_bd (berV_quay hv)
  omega
def fullTo (q : Int) (xs : List (Int × Int × Int × Int × Int)) (n : Nat) : Nat := cnt (fun h => decide ((freeTo xs h q.toNat).length = 0)) n
theorem fullTo_succ (q : Int) (xs : List (Int × Int × Int × Int × Int)) (n : Nat) : fullTo q xs (n + 1) = fullTo q xs n + (if (freeTo xs n q.toNat).length = 0 then 1 else 0) := by
  unfold fullTo
  rw [cnt_succ]
  simp
theorem fullTo_le (q : Int) (xs : List (Int × Int × Int × Int × Int)) (n : Nat) : fullTo q xs n ≤ n := by
  unfold fullTo cnt
  exact Nat.le_trans (List.length_filter_le _ _) (by simp)
def fullV (q : Int) (xs : List (Int × Int × Int × Int × Int)) : Int × Bool := if berV q xs = true then ((fullTo q xs 500 : Nat), true) else (0, false)
/-- the berth with an Id ends at an hour -/
def findId (xs : List (Int × Int × Int × Int × Int)) (id : Int) : Option Nat := xs.findIdx? fun x => decide (x.1 = id)
def endAt (x : Int × Int × Int × Int × Int) (h : Int) : Int × Int × Int × Int × Int := (x.1, x.2.1, x.2.2.1, x.2.2.2.1, h)
def leaveL (xs : List (Int × Int × Int × Int × Int)) (id h : Int) : Option (List (Int × Int × Int × Int × Int)) :=
  match findId xs id with
  | some i => (match xs[i]? with | some x => if x.2.2.2.1 + 1 ≤ h ∧ h ≤ x.2.2.2.2 - 1 then some (xs.set i (endAt x h)) else none | none => none)
  | none => none
def leaveV (q : Int) (xs : List (Int × Int × Int × Int × Int)) (id h : Int) : List (Int × Int × Int × Int × Int) × Bool :=
  if berV q xs = true then (match leaveL xs id h with | some l => (l, true) | none => ([], false)) else ([], false)

theorem info_In : (Try.prog.info? 3).map (fun i => (i.zero, i.size, i.bytes)) = some (some (.int .i64 0), 1, 8) := by kernel_rfl

end Go.Proofs.Ytfipmalomhflgaa
namespace Go.Proofs.Ytfipmalomhflgaa
set_option linter.unusedSimpArgs false
set_option linter.unusedVariables false
open Go.RowKit

def cB (x : Int) : List Value := [.int .u8 x]
/-- the cursor at block b: the code, how far it has come (m at most), the seed -/
def Cur (w : World) (b : Nat) (A : Option Addr) (n cap : Nat) (m : Int) : Prop :=
  b < w.heap.size ∧ w.cell? ⟨b, 0, none⟩ = some (.slice A n cap) ∧ (∃ a : Int, 0 ≤ a ∧ a ≤ m ∧ w.cell? ⟨b, 1, none⟩ = some (.int .i64 a)) ∧ (∃ s : Int, w.cell? ⟨b, 2, none⟩ = some (.int .u64 s)) ∧ ∀ o, w.frozen? ⟨b, o, none⟩ = false
def Bytes (cs : List Int) : Prop := ∀ k (hk : k < cs.length), 0 ≤ cs[k] ∧ cs[k] ≤ 255
theorem low8 (E : Int) (h0 : 0 ≤ E) (h1 : E ≤ 18446744073709551615) : 0 ≤ bits BinOp.and IntKind.u64 E 255 ∧ bits BinOp.and IntKind.u64 E 255 ≤ 255 := by
  have h := bits_and_u64_nat E.toNat 255 (by omega) (by omega)
  rw [Int.toNat_of_nonneg h0] at h
  have h3 : bits BinOp.and IntKind.u64 E 255 = ((E.toNat &&& 255 : Nat) : Int) := h
  have h2 : E.toNat &&& 255 ≤ 255 := Nat.and_le_right
  omega
theorem wrap_u64 (x : Int) : 0 ≤ IntKind.u64.wrap x ∧ IntKind.u64.wrap x ≤ 18446744073709551615 := by
  have : IntKind.u64.wrap x = x % 18446744073709551616 := rfl
  omega
theorem Cur.after {w w' : World} {b n cap : Nat} {A : Option Addr} {m a : Int} (hcu : Cur w b A n cap m) (ha : 0 ≤ a ∧ a ≤ m + 1) (h0 : w'.cell? ⟨b, 0, none⟩ = w.cell? ⟨b, 0, none⟩) (h1 : w'.cell? ⟨b, 1, none⟩ = some (.int .i64 a)) (h2 : ∃ s, w'.cell? ⟨b, 2, none⟩ = some (.int .u64 s))
    (hz : ∀ o, w'.frozen? ⟨b, o, none⟩ = w.frozen? ⟨b, o, none⟩) (hs : w.heap.size ≤ w'.heap.size) : Cur w' b A n cap (m + 1) := by
  obtain ⟨hb, q0, _, _, qz⟩ := hcu
  exact ⟨by omega, by rw [h0]; exact q0, ⟨a, ha.1, ha.2, h1⟩, h2, fun o => by rw [hz]; exact qz o⟩
theorem grown_drew {a w : World} {row : Option Nat} (h : a.grownBy w row) : a.grownBy w.drew row := ⟨h.os, h.tape, h.output, h.size, h.block⟩
set_option maxRecDepth 100000 in
set_option maxHeartbeats 2000000 in
theorem c_next (b : Nat) (A : Option Addr) (cs : List Int) (cap : Nat) (m : Int) (w : World) (hcu : Cur w b A cs.length cap m) (hr : RdsN b cB 1 w A cs) (hby : Bytes cs) (hm : 0 ≤ m ∧ m ≤ 1000000000) (hl : cs.length ≤ 1000000000) :
    Calls Try.prog 88 #[.pointer (some ⟨b, 0, none⟩)] w fun e w' => ∃ x : Int, e = .returned (.int .i64 x) ∧ 0 ≤ x ∧ x ≤ 255 ∧ Cur w' b A cs.length cap (m + 1) ∧ w.grownBy w' (some b) := by
  have hcu0 := hid hcu
  obtain ⟨hb, q0, ⟨a, ha0, ha1, q1⟩, ⟨s, q2⟩, qz⟩ := hcu
  have z1 := qz 1
  have z2 := qz 2
  by_cases hlt : a < cs.length
  · obtain ⟨k, rfl⟩ : ∃ k : Nat, a = k := ⟨a.toNat, by omega⟩
    have hk : k < cs.length := by omega
    obtain ⟨bx, ox, rfl, hbx, hcx⟩ := hr k cs[k] (List.getElem?_eq_getElem hk)
    have hx0 := hcx 0 _ rfl
    simp only [Nat.add_zero, Nat.mul_one] at hx0
    have hx := hby k hk
    clear hcx hr hby
    generalize cs[k] = x at *
    generalize hcl : cs.length = n at *
    go_enter Try.func88, Try.ntmps88
    go_wp2_with (fail)
    go_region
    all_goals go_wp2_with (fail)
    all_goals go_region
    all_goals go_wp2_with (fail)
    all_goals go_region
    all_goals go_wp2_with (fail)
    all_goals go_ret
    all_goals
      refine ⟨x, rfl, hx.1, hx.2, ?_, ?_⟩
      · refine Cur.after hcu0.out (a := k + 1) (by omega) ?_ ?_ ?_ (fun o => ?_) ?_
        · simp [go_sem]
        · simp [go_sem, q1]
        · refine ⟨?_, ?_⟩
          rotate_left
          · simp [go_sem, q2]
            rfl
        · simp [go_sem]
        · simp
      · repeat' first | exact World.grownBy.refl _ _ | refine grown_drew ?_ | refine grown_set ?_
  · have hx0 : (0 : Int) ≤ 0 := by omega
    clear hr hby
    generalize hcl : cs.length = n at *
    go_enter Try.func88, Try.ntmps88
    go_wp2_with (fail)
    go_region
    all_goals go_wp2_with (fail)
    all_goals go_region
    all_goals go_wp2_with (fail)
    have hw := wrap_u64 (IntKind.u64.wrap (IntKind.u64.wrap (s * 6364136223846793005)) + 924924)
    generalize hg : IntKind.u64.wrap (IntKind.u64.wrap (IntKind.u64.wrap (s * 6364136223846793005)) + 924924) = u at *
    have h8 := low8 (u / 1099511627776) (by omega) (by omega)
    generalize bits BinOp.and IntKind.u64 (u / 1099511627776) 255 = z at *
    have e : wrap64 z = z := by unfold wrap64; omega
    all_goals go_ret
    all_goals
      refine ⟨z, by (first | rfl | simp [e]),  h8.1, h8.2, ?_, ?_⟩
      · refine Cur.after hcu0.out (a := a + 1) (by omega) ?_ ?_ ?_ (fun o => ?_) ?_
        · simp [go_sem]
        · simp [go_sem, q1]
        · refine ⟨?_, ?_⟩
          rotate_left
          · simp [go_sem, q2]
            rfl
        · simp [go_sem]
        · simp
      · repeat' first | exact World.grownBy.refl _ _ | refine grown_drew ?_ | refine grown_set ?_

end Go.Proofs.Ytfipmalomhflgaa
namespace Go.Proofs.Ytfipmalomhflgaa
set_option linter.unusedSimpArgs false
set_option linter.unusedVariables false
open Go.RowKit

set_option maxHeartbeats 400000 in
theorem c_impl_inside (a b c : Int) (w : World)  :
    Calls Try.prog 53 #[.int .i64 (a), .int .i64 (b), .int .i64 (c)] w fun e w' => e = .returned (.bool (inB a b c)) ∧ Below w.heap.size w w' := by
  go_enter Try.func53, Try.ntmps53
  go_wp2
  all_goals go_ret
  all_goals
    refine ⟨ret_bool ?_, ?_⟩
    · first | rfl | omega | (simp [inB]; done) | (simp [inB]; omega) | (simp [inB]; (repeat' split) <;> (first | omega | (simp; done) | (simp; omega))) | (simp_all [inB]; done) | (simp_all [inB]; omega)
    · (repeat' (first | exact Below.refl _ _ | assumption | refine Below.setCell ?_ ?_ _ | refine Below.drew ?_ | refine Below.alloc ?_ ?_ _ | refine Below.trans ?_ (Below.mono (by assumption) ?_) | (simp; done) | (simp; omega) | omega))

set_option maxHeartbeats 400000 in
theorem c_spec_l1In (a b c : Int) (w : World)  :
    Calls Try.prog 57 #[.int .i64 (a), .int .i64 (b), .int .i64 (c)] w fun e w' => e = .returned (.bool (inB a b c)) ∧ Below w.heap.size w w' := by
  go_enter Try.func57, Try.ntmps57
  go_wp2
  all_goals go_ret
  all_goals
    refine ⟨ret_bool ?_, ?_⟩
    · first | rfl | omega | (simp [inB]; done) | (simp [inB]; omega) | (simp [inB]; (repeat' split) <;> (first | omega | (simp; done) | (simp; omega))) | (simp_all [inB]; done) | (simp_all [inB]; omega)
    · (repeat' (first | exact Below.refl _ _ | assumption | refine Below.setCell ?_ ?_ _ | refine Below.drew ?_ | refine Below.alloc ?_ ?_ _ | refine Below.trans ?_ (Below.mono (by assumption) ?_) | (simp; done) | (simp; omega) | omega))

set_option maxHeartbeats 400000 in
theorem c_spec_l1Most (a b : Int) (w : World)  :
    Calls Try.prog 76 #[.int .i64 (a), .int .i64 (b)] w fun e w' => e = .returned (.int .i64 (max a b)) ∧ Below w.heap.size w w' := by
  go_enter Try.func76, Try.ntmps76
  go_wp2
  all_goals go_ret
  all_goals
    refine ⟨ret_int ?_, ?_⟩
    · first | rfl | omega | (simp []; done) | (simp []; omega) | (simp []; (repeat' split) <;> (first | omega | (simp; done) | (simp; omega))) | (simp_all []; done) | (simp_all []; omega)
    · (repeat' (first | exact Below.refl _ _ | assumption | refine Below.setCell ?_ ?_ _ | refine Below.drew ?_ | refine Below.alloc ?_ ?_ _ | refine Below.trans ?_ (Below.mono (by assumption) ?_) | (simp; done) | (simp; omega) | omega))

end Go.Proofs.Ytfipmalomhflgaa
namespace Go.Proofs.Ytfipmalomhflgaa
set_option linter.unusedSimpArgs false
set_option linter.unusedVariables false
open Go.RowKit

def hourOk (q : Int) (xs : List (Int × Int × Int × Int × Int)) (h : Int) : Bool := berV q xs && inB h 0 499
theorem hourOk_bd {q : Int} {xs : List (Int × Int × Int × Int × Int)} {h : Int} (e : hourOk q xs h = true) : berV q xs = true ∧ 0 ≤ h ∧ h ≤ 499 := by
  simp only [hourOk, Bool.and_eq_true] at e
  exact ⟨e.1, inB_bd e.2⟩
theorem freeV_no {q : Int} {xs : List (Int × Int × Int × Int × Int)} {h : Int} (e : hourOk q xs h = false) : freeV q xs h = ([], false) := by
  unfold freeV
  rw [if_neg (fun a => ?_)]
  simp [hourOk, a.1, a.2] at e
theorem freeV_yes {q : Int} {xs : List (Int × Int × Int × Int × Int)} {h : Int} (e : hourOk q xs h = true) : freeV q xs h = (freeTo xs h q.toNat, true) := by
  unfold freeV
  simp only [hourOk, Bool.and_eq_true] at e
  rw [if_pos e]

theorem FreshA.emp {α : Type} {cf : α → List Value} {sz : Nat} {T : TypeId} {w w' : World} (hb : Below (w.heap.size + 1) (w.alloc (.cells #[] T)) w') : FreshA cf sz T w.heap.size w' (some ⟨w.heap.size, 0, none⟩) 0 ([] : List α) := by
  refine .inr ⟨w.heap.size, rfl, Nat.le_refl _, #[], ?_, by simp, Nat.le_refl _, by unfold maxLen; omega, fun i x h => by simp at h⟩
  rw [hb.block _ (by omega)]
  exact heap_alloc_new _ _
theorem FreshA.new {α : Type} {cf : α → List Value} {sz : Nat} {T : TypeId} {B : Nat} {w : World} (hB : B ≤ w.heap.size) : FreshA cf sz T B (w.alloc (.cells #[] T)) (some ⟨w.heap.size, 0, none⟩) 0 ([] : List α) :=
  .inr ⟨w.heap.size, rfl, hB, #[], heap_alloc_new _ _, by simp, Nat.le_refl _, by unfold maxLen; omega, fun i x h => by simp at h⟩

end Go.Proofs.Ytfipmalomhflgaa
namespace Go.Proofs.Ytfipmalomhflgaa
set_option linter.unusedSimpArgs false
set_option linter.unusedVariables false
open Go.RowKit

section
variable {α : Type} {cf : α → List Value} {sz : Nat} {T : TypeId} {w w' : World} {A : Option Addr} {xs : List α} {g cap B : Nat}
theorem flatMap_src (hcf : ∀ x, (cf x).length = sz) (hsz : 0 < sz) {ys : List α} {ga oa : Nat} (hn : ∀ i (hi : i < ys.length) j u, (cf ys[i])[j]? = some u → w.cell? ⟨ga, oa + i * sz + j, none⟩ = some u) :
    ∀ j u, (ys.flatMap cf)[j]? = some u → w.cell? ((⟨ga, oa, none⟩ : Addr).add j) = some u := by
  intro p u hp
  have hpl : p < ys.length * sz := by
    rcases Nat.lt_or_ge p (ys.flatMap cf).length with hl | hl
    · rwa [flatMap_len hcf] at hl
    · rw [List.getElem?_eq_none hl] at hp; cases hp
  have hi : p / sz < ys.length := Nat.div_lt_of_lt_mul (by rw [Nat.mul_comm]; exact hpl)
  have hj : p % sz < sz := Nat.mod_lt _ hsz
  have e : p / sz * sz + p % sz = p := by rw [Nat.mul_comm]; exact Nat.div_add_mod p sz
  have hx : ys[p / sz]? = some ys[p / sz] := List.getElem?_eq_getElem hi
  have h7 := flatMap_at hcf ys _ _ _ hx hj
  rw [e, hp] at h7
  have h8 := hn _ hi _ _ h7.symm
  have e2 : (⟨ga, oa, none⟩ : Addr).add p = ⟨ga, oa + p, none⟩ := by
    unfold Addr.add
    by_cases h0 : p = 0 <;> simp [h0]
  rw [e2]
  rwa [show oa + p / sz * sz + p % sz = oa + p by omega] at h8
/-- 'append(s, ys...)' on a slice of the call's own -/
theorem wp_pushes {P : Program} {o : Oper} {a : Act} {K : Act → World → Prop} {Q : Exit → Act → World → Prop} (s x : Operand) (t : TypeId)
    (ho : o.op = .call { callee := .builtin .append, args := #[s, x], argTypes := #[t, t] })
    (e : TypeId) (i : TypeInfo) (z : Value) (bytes : Nat) (ht : P.underlying t = some (.slice e)) (hi : P.info? e = some i) (hz : i.zero = some z)
    (hsize : i.size = sz) (hby : i.bytes = bytes) (hzs : z.cells.size = sz) (hsz : 0 < sz) (hcf : ∀ x, (cf x).length = sz) (hone : ∀ x, ∀ u ∈ cf x, u.oneCell' = true)
    (n : Nat) (hn : xs.length = n) (hs : a.eval s = .slice A n cap) (hF : FreshA cf sz e B w A cap xs)
    (ys : List α) (m : Nat) (hm : ys.length = m) (ga oa c : Nat) (hx : a.eval x = .slice (some ⟨ga, oa, none⟩) m c) (hnews : ∀ i (hi : i < ys.length) j u, (cf ys[i])[j]? = some u → w.cell? ⟨ga, oa + i * sz + j, none⟩ = some u)
    (h63 : n + m ≤ maxLen) (hbytes : (n + m) * bytes ≤ 140737488355328) (hbase : B ≤ w.heap.size)
    (h : ∀ A' cap' w', FreshA cf sz e B w' A' cap' (xs ++ ys) → w.grownBy w' (blkO A) → (blkO A' = blkO A ∨ blkO A' = some w.heap.size) → K (a.put o.dst (.slice A' (n + m) cap')) w') : o.wp P a w K Q := by
  subst hn hm
  have hown := hF.own hcf hsz
  obtain ⟨v', w', hrun, hown', hg, _, hat⟩ := run_append_own_at (P := P) w B t o.type e i z sz bytes ht hi hz hsize hby hzs hsz _ _ _ hown ⟨ga, oa, none⟩ ys.length c (ys.flatMap cf) (flatMap_len hcf ys) (flatMap_src hcf hsz hnews) (fun u hu => by
    obtain ⟨y, _, hy⟩ := List.mem_flatMap.1 hu
    exact hone y u hy) h63 hbytes hbase
  unfold Oper.wp execOp
  simp only [ho, resolve, invoke, builtin, Sem.run_bind, Sem.run_pure, Result.andThen_ok, List.map_toArray, List.map_cons, List.map_nil, hs, hx, hrun]
  have hl : (xs ++ ys).length = xs.length + ys.length := by simp
  have hown2 : w'.ownsRow B e sz v' (xs ++ ys).length ((xs ++ ys).flatMap cf) := by
    rw [hl, List.flatMap_append]
    exact hown'
  obtain ⟨A', cap', rfl, hF'⟩ := FreshA.of_own hcf hown2
  have hb : ∀ (A : Option Addr) (n c : Nat), (Value.slice A n c).ownBlock = blkO A := fun A n c => by cases A <;> rfl
  rw [hb] at hg
  rw [hb, hb] at hat
  have := h A' cap' w' hF' hg hat
  rw [hl]
  exact this
theorem wpList_pushes {P : Program} {ops : Array Oper} {rest : List Oper} {o : Oper} {a : Act} {Q : Exit → Act → World → Prop} (hgd : o.guard = none) (s x : Operand) (t : TypeId)
    (ho : o.op = .call { callee := .builtin .append, args := #[s, x], argTypes := #[t, t] })
    (e : TypeId) (i : TypeInfo) (z : Value) (bytes : Nat) (ht : P.underlying t = some (.slice e)) (hi : P.info? e = some i) (hz : i.zero = some z)
    (hsize : i.size = sz) (hby : i.bytes = bytes) (hzs : z.cells.size = sz) (hsz : 0 < sz) (hcf : ∀ x, (cf x).length = sz) (hone : ∀ x, ∀ u ∈ cf x, u.oneCell' = true)
    (n : Nat) (hn : xs.length = n) (hs : a.eval s = .slice A n cap) (hF : FreshA cf sz e B w A cap xs)
    (ys : List α) (m : Nat) (hm : ys.length = m) (ga oa c : Nat) (hx : a.eval x = .slice (some ⟨ga, oa, none⟩) m c) (hnews : ∀ i (hi : i < ys.length) j u, (cf ys[i])[j]? = some u → w.cell? ⟨ga, oa + i * sz + j, none⟩ = some u)
    (h63 : n + m ≤ maxLen) (hbytes : (n + m) * bytes ≤ 140737488355328) (hbase : B ≤ w.heap.size)
    (h : ∀ A' cap' w', FreshA cf sz e B w' A' cap' (xs ++ ys) → w.grownBy w' (blkO A) → (blkO A' = blkO A ∨ blkO A' = some w.heap.size) → wpList P ops Q rest (a.put o.dst (.slice A' (n + m) cap')) w') : wpList P ops Q (o :: rest) a w :=
  wpList_plain hgd fun _ hK => wp_pushes s x t ho e i z bytes ht hi hz hsize hby hzs hsz hcf hone n hn hs hF ys m hm ga oa c hx hnews h63 hbytes hbase fun A' cap' w' h1 h2 h3 => hK _ _ (h A' cap' w' h1 h2 h3)
/-- an element is written -/
theorem OwnS.put {y : α} {k : Nat} (hcf : ∀ x, (cf x).length = sz) (h : OwnS cf sz T w g cap xs) (hk : k < xs.length) : OwnS cf sz T (stores w g (k * sz) (cf y)) g cap (xs.set k y) := by
  obtain ⟨cur, h1, h2, h3, h4, h5⟩ := h
  have hroom : (k + 1) * sz ≤ cap * sz := Nat.mul_le_mul_right sz (by omega)
  rw [Nat.succ_mul] at hroom
  obtain ⟨cur', e1, e2, e3⟩ := stores_heap (T := T) (cf y) w (k * sz) cur h1 (by rw [hcf]; omega)
  refine ⟨cur', e1, e2.trans h2, by simpa using h3, h4, fun i z hz j v hv => ?_⟩
  have hj := lt_of_cf hcf hv
  rw [e3, hcf]
  rw [List.getElem?_set] at hz
  split at hz
  · rename_i hi
    subst hi
    simp only [hk, if_true, Option.some.injEq] at hz
    subst hz
    rw [if_pos (by omega), Nat.add_sub_cancel_left]
    exact hv
  · rename_i hi
    rw [if_neg ?_]
    · exact h5 i z hz j v hv
    · intro hc
      rcases Nat.lt_or_gt_of_ne hi with hlt | hgt
      · have : (k + 1) * sz ≤ i * sz := Nat.mul_le_mul_right sz hlt
        rw [Nat.succ_mul] at this
        omega
      · have : (i + 1) * sz ≤ k * sz := Nat.mul_le_mul_right sz hgt
        rw [Nat.succ_mul] at this
        omega
/-- one cell of an element is written -/
theorem OwnS.put1 {y : α} {k j : Nat} {v : Value} (hcf : ∀ x, (cf x).length = sz) (h : OwnS cf sz T w g cap xs) (hk : k < xs.length) (hj : j < sz) (hy : cf y = (cf xs[k]).set j v) : OwnS cf sz T (w.setCell ⟨g, k * sz + j, none⟩ v) g cap (xs.set k y) := by
  obtain ⟨cur, h1, h2, h3, h4, h5⟩ := h
  have hroom : (k + 1) * sz ≤ cap * sz := Nat.mul_le_mul_right sz (by omega)
  rw [Nat.succ_mul] at hroom
  refine ⟨cur.setIfInBounds (k * sz + j) v, heap_setCell_self h1 _ _, by simpa using h2, by simpa using h3, h4, fun i z hz p u hu => ?_⟩
  have hp := lt_of_cf hcf hu
  rw [List.getElem?_set] at hz
  rw [Array.getElem?_setIfInBounds]
  split at hz
  · rename_i hi
    subst hi
    simp only [hk, if_true, Option.some.injEq] at hz
    subst hz
    rw [hy, List.getElem?_set] at hu
    by_cases hpj : j = p
    · subst hpj
      rw [if_pos rfl, if_pos (by omega)]
      rw [if_pos rfl, hcf, if_pos hp] at hu
      exact hu
    · rw [if_neg (by omega)]
      rw [if_neg hpj] at hu
      exact h5 k _ (List.getElem?_eq_getElem hk) p u hu
  · rename_i hi
    rw [if_neg ?_]
    · exact h5 i z hz p u hu
    · intro hc
      rcases Nat.lt_or_gt_of_ne hi with hlt | hgt
      · have : (k + 1) * sz ≤ i * sz := Nat.mul_le_mul_right sz hlt
        rw [Nat.succ_mul] at this
        omega
      · have : (i + 1) * sz ≤ k * sz := Nat.mul_le_mul_right sz hgt
        rw [Nat.succ_mul] at this
        omega
theorem FreshA.row (h : FreshA cf sz T B w A cap xs) (hne : 0 < xs.length) : ∃ g, A = some ⟨g, 0, none⟩ ∧ B ≤ g ∧ OwnS cf sz T w g cap xs := by
  rcases h with ⟨_, rfl, _⟩ | h
  · simp at hne
  · exact h
end

end Go.Proofs.Ytfipmalomhflgaa
namespace Go.Proofs.Ytfipmalomhflgaa
set_option linter.unusedSimpArgs false
set_option linter.unusedVariables false
open Go.RowKit

def sameB (z : Int) (x : Int × Int × Int × Int × Int) : Bool := decide (x.1 = z)
def leaveP (z h : Int) (x : Int × Int × Int × Int × Int) : Bool := decide (x.1 = z) && inB h (x.2.2.2.1 + 1) (x.2.2.2.2 - 1)
theorem findId_eq (xs : List (Int × Int × Int × Int × Int)) (z : Int) : findId xs z = xs.findIdx? (sameB z) := rfl
theorem idx_none {xs : List (Int × Int × Int × Int × Int)} {z : Int} (h : findId xs z = none) : idxF (sameB z) xs = -1 := by
  rw [findId_eq] at h
  simp [idxF, h]
theorem idx_some {xs : List (Int × Int × Int × Int × Int)} {z : Int} {k : Nat} (h : findId xs z = some k) : idxF (sameB z) xs = k := by
  rw [findId_eq] at h
  simp [idxF, h]
theorem findId_lt {xs : List (Int × Int × Int × Int × Int)} {z : Int} {k : Nat} (h : findId xs z = some k) : k < xs.length := by
  unfold findId at h
  rw [List.findIdx?_eq_some_iff_getElem] at h
  exact h.1
theorem berV_mono {q : Int} {xs : List (Int × Int × Int × Int × Int)} (hv : berV q xs = true) : ∀ (j k : Nat) (_ : j < k) (hk : k < xs.length), xs[j].1 < xs[k].1
  | j, k + 1, hj, hk => by
    have h1 := berV_lt hv k hk
    by_cases he : j = k
    · subst he; exact h1
    · have := berV_mono hv j k (by omega) (by omega)
      omega
theorem leave_hit {q : Int} {xs : List (Int × Int × Int × Int × Int)} (hv : berV q xs = true) {z h : Int} {k : Nat} (hk : k < xs.length) (hp : leaveP z h xs[k] = true) : leaveL xs z h = some (xs.set k (endAt xs[k] h)) := by
  simp only [leaveP, Bool.and_eq_true, decide_eq_true_eq] at hp
  have h2 := inB_bd hp.2
  have hf : findId xs z = some k := by
    unfold findId
    rw [List.findIdx?_eq_some_iff_getElem]
    refine ⟨hk, by simp [hp.1], fun j hj => ?_⟩
    have := berV_mono hv j k hj hk
    simp
    omega
  unfold leaveL
  rw [hf]
  simp only [List.getElem?_eq_getElem hk]
  rw [if_pos (by omega)]
theorem leave_none {q : Int} {xs : List (Int × Int × Int × Int × Int)} (hv : berV q xs = true) {z h : Int} (hn : xs.any (leaveP z h) = false) : leaveL xs z h = none := by
  cases hf : findId xs z with
  | none => unfold leaveL; rw [hf]
  | some k =>
    have hk := findId_lt hf
    unfold leaveL
    rw [hf]
    simp only [List.getElem?_eq_getElem hk]
    rw [if_neg]
    intro hc
    rw [List.any_eq_false] at hn
    refine hn xs[k] (List.getElem_mem hk) ?_
    unfold findId at hf
    rw [List.findIdx?_eq_some_iff_getElem] at hf
    obtain ⟨_, h1, _⟩ := hf
    simp only [leaveP, inB, Bool.and_eq_true, decide_eq_true_eq]
    exact ⟨by simpa using h1, by omega⟩
theorem leaveV_no {q : Int} {xs : List (Int × Int × Int × Int × Int)} {z h : Int} (hv : berV q xs = false) : leaveV q xs z h = ([], false) := by simp [leaveV, hv]
theorem leaveV_none {q : Int} {xs : List (Int × Int × Int × Int × Int)} {z h : Int} (hl : leaveL xs z h = none) : leaveV q xs z h = ([], false) := by simp [leaveV, hl]
theorem leaveV_some {q : Int} {xs l : List (Int × Int × Int × Int × Int)} {z h : Int} (hv : berV q xs = true) (hl : leaveL xs z h = some l) : leaveV q xs z h = (l, true) := by simp [leaveV, hv, hl]
theorem leaveL_id {xs : List (Int × Int × Int × Int × Int)} {z h : Int} (hf : findId xs z = none) : leaveL xs z h = none := by unfold leaveL; rw [hf]
theorem leaveL_at {xs : List (Int × Int × Int × Int × Int)} {z h : Int} {k : Nat} (hk : k < xs.length) (hf : findId xs z = some k) (hi : inB h (xs[k].2.2.2.1 + 1) (xs[k].2.2.2.2 - 1) = true) : leaveL xs z h = some (xs.set k (endAt xs[k] h)) := by
  have := inB_bd hi
  unfold leaveL
  rw [hf]
  simp only [List.getElem?_eq_getElem hk]
  rw [if_pos (by omega)]
theorem leaveL_out {xs : List (Int × Int × Int × Int × Int)} {z h : Int} {k : Nat} (hk : k < xs.length) (hf : findId xs z = some k) (hi : inB h (xs[k].2.2.2.1 + 1) (xs[k].2.2.2.2 - 1) = false) : leaveL xs z h = none := by
  unfold leaveL
  rw [hf]
  simp only [List.getElem?_eq_getElem hk]
  rw [if_neg]
  intro hc
  simp [inB] at hi
  have := hi hc.1
  omega
theorem leaveV_len (q : Int) (xs : List (Int × Int × Int × Int × Int)) (z h : Int) : (leaveV q xs z h).1.length ≤ 10 := by
  unfold leaveV
  by_cases hv : berV q xs = true
  · rw [if_pos hv]
    have hl := berV_len hv
    unfold leaveL
    split
    · rename_i l hl2
      split at hl2
      · split at hl2
        · split at hl2
          · cases hl2; simpa using hl
          · cases hl2
        · cases hl2
      · cases hl2
    · simp
  · rw [if_neg hv]; simp

theorem info_Ber : (Try.prog.info? 48).map (fun i => (i.zero, i.size, i.bytes)) = some (some (.agg #[.int .i64 0, .int .i64 0, .int .i64 0, .int .i64 0, .int .i64 0]), 5, 40) := by kernel_rfl

end Go.Proofs.Ytfipmalomhflgaa
namespace Go.Proofs.Ytfipmalomhflgaa
set_option linter.unusedSimpArgs false
set_option linter.unusedVariables false
open Go.RowKit

def lies (h : Int) (x : Int × Int × Int × Int × Int) : Bool := decide (x.2.2.2.1 ≤ h ∧ h < x.2.2.2.2)
def atC (h : Int) (c : Nat) (x : Int × Int × Int × Int × Int) : Bool := decide (x.2.1 = (c : Int)) && lies h x
def lyB (xs : List (Int × Int × Int × Int × Int)) (h : Int) (c i : Nat) : List Int := ((xs.take i).filter (atC h c)).map (·.1)
def lyTo (xs : List (Int × Int × Int × Int × Int)) (h : Int) (n : Nat) : List Int := (List.range n).flatMap fun c => lyB xs h c xs.length
theorem lyTo_succ (xs : List (Int × Int × Int × Int × Int)) (h : Int) (n : Nat) : lyTo xs h (n + 1) = lyTo xs h n ++ lyB xs h n xs.length := by
  unfold lyTo
  rw [List.range_succ, List.flatMap_append]
  simp
theorem lyB_succ (xs : List (Int × Int × Int × Int × Int)) (h : Int) (c i : Nat) (hi : i < xs.length) : lyB xs h c (i + 1) = lyB xs h c i ++ (if atC h c xs[i] = true then [xs[i].1] else []) := by
  unfold lyB
  rw [List.take_succ_eq_append_getElem hi, List.filter_append, List.map_append]
  by_cases hc : atC h c xs[i] = true
  · simp [hc]
  · simp [hc]
theorem lyB_len (xs : List (Int × Int × Int × Int × Int)) (h : Int) (c i : Nat) : (lyB xs h c i).length ≤ i := by
  unfold lyB
  rw [List.length_map]
  exact Nat.le_trans (List.length_filter_le _ _) (by rw [List.length_take]; omega)
def lieL (xs : List (Int × Int × Int × Int × Int)) (h : Int) (k : Nat) : List (Int × Int × Int × Int × Int) := (xs.take k).filter (lies h)
theorem lieL_succ (xs : List (Int × Int × Int × Int × Int)) (h : Int) (k : Nat) (hk : k < xs.length) : lieL xs h (k + 1) = lieL xs h k ++ (if lies h xs[k] = true then [xs[k]] else []) := by
  unfold lieL
  rw [List.take_succ_eq_append_getElem hk, List.filter_append]
  by_cases hc : lies h xs[k] = true
  · simp [hc]
  · simp [hc]
theorem lieL_len (xs : List (Int × Int × Int × Int × Int)) (h : Int) (k : Nat) : (lieL xs h k).length ≤ k := by
  unfold lieL
  exact Nat.le_trans (List.length_filter_le _ _) (by rw [List.length_take]; omega)
def lyV (q : Int) (xs : List (Int × Int × Int × Int × Int)) (h : Int) : List Int × Bool := if hourOk q xs h = true then (lyTo xs h q.toNat, true) else ([], false)
theorem sorted_ext {α : Type} (key : α → Int) : ∀ {l1 l2 : List α}, l1.Pairwise (fun x y => key x < key y) → l2.Pairwise (fun x y => key x < key y) → (∀ x, x ∈ l1 ↔ x ∈ l2) → l1 = l2
  | [], [], _, _, _ => rfl
  | [], b :: l2, _, _, h => by have := (h b).2 (List.mem_cons_self ..); cases this
  | a :: l1, [], _, _, h => by have := (h a).1 (List.mem_cons_self ..); cases this
  | a :: l1, b :: l2, h1, h2, h => by
    rw [List.pairwise_cons] at h1 h2
    have hab : a = b := by
      have ha := (h a).1 (List.mem_cons_self ..)
      have hb := (h b).2 (List.mem_cons_self ..)
      rw [List.mem_cons] at ha hb
      rcases ha with e | e
      · exact e
      rcases hb with e2 | e2
      · exact e2.symm
      have k1 := h2.1 _ e
      have k2 := h1.1 _ e2
      omega
    subst hab
    congr 1
    refine sorted_ext key h1.2 h2.2 fun x => ?_
    constructor
    · intro hx
      have := (h x).1 (List.mem_cons_of_mem _ hx)
      rw [List.mem_cons] at this
      rcases this with rfl | e
      · have := h1.1 _ hx; omega
      · exact e
    · intro hx
      have := (h x).2 (List.mem_cons_of_mem _ hx)
      rw [List.mem_cons] at this
      rcases this with rfl | e
      · have := h2.1 _ hx; omega
      · exact e
theorem ber_apart {q : Int} {xs : List (Int × Int × Int × Int × Int)} (hv : berV q xs = true) : xs.Pairwise (fun x y => crash y.2.1 y.2.2.1 y.2.2.2.1 y.2.2.2.2 x = false) := by
  rw [List.pairwise_iff_getElem]
  intro i j hi hj hij
  have hf := berAt_free hj (berV_ats hv j hj)
  cases hc : crash xs[j].2.1 xs[j].2.2.1 xs[j].2.2.2.1 xs[j].2.2.2.2 xs[i] with
  | false => rfl
  | true => rw [meets_hit (k := j) hij (by omega) hc] at hf; cases hf
theorem lie_apart {q : Int} {xs : List (Int × Int × Int × Int × Int)} (hv : berV q xs = true) (h : Int) : xs.Pairwise (fun x y => lies h x = true → lies h y = true → x.2.1 ≠ y.2.1) := by
  refine (ber_apart hv).imp_of_mem ?_
  intro x y hx hy hc h1 h2 he
  have bx := berOk_bd (berV_mem hv x hx)
  have by_ := berOk_bd (berV_mem hv y hy)
  simp only [lies, decide_eq_true_eq] at h1 h2
  simp only [crash, crashB, decide_eq_false_iff_not] at hc
  exact hc (by omega)
theorem lie_eq {q : Int} {xs ys : List (Int × Int × Int × Int × Int)} {h : Int} (hv : berV q xs = true) (hp : ys.Perm (lieL xs h xs.length)) (hs : ∀ (i j : Nat) (hj : j < ys.length) (hi : i < j), ys[i].2.1 ≤ ys[j].2.1) : ys.map (·.1) = lyTo xs h q.toNat := by
  have hd : lieL xs h xs.length = xs.filter (lies h) := by unfold lieL; rw [List.take_length]
  rw [hd] at hp
  have hne : ys.Pairwise (fun x y => x.2.1 ≠ y.2.1) := by
    rw [List.Perm.pairwise_iff (fun h => Ne.symm h) hp, List.pairwise_filter]
    exact lie_apart hv h
  have hlt : ys.Pairwise (fun x y => x.2.1 < y.2.1) := by
    rw [List.pairwise_iff_getElem] at hne ⊢
    intro i j hi hj hij
    have h1 := hne i j hi hj hij
    have h2 := hs i j hj hij
    omega
  have hF : ((List.range q.toNat).flatMap fun c => xs.filter (atC h c)).Pairwise (fun x y => x.2.1 < y.2.1) := by
    rw [List.pairwise_flatMap]
    refine ⟨fun c _ => ?_, ?_⟩
    · rw [List.pairwise_filter]
      refine (lie_apart hv h).imp ?_
      intro x y hxy h1 h2
      simp only [atC, Bool.and_eq_true, decide_eq_true_eq] at h1 h2
      exact absurd (h1.1.trans h2.1.symm) (hxy h1.2 h2.2)
    · refine List.pairwise_lt_range.imp ?_
      intro a b hab x hx y hy
      have h1 := (List.mem_filter.1 hx).2
      have h2 := (List.mem_filter.1 hy).2
      simp only [atC, Bool.and_eq_true, decide_eq_true_eq] at h1 h2
      omega
  have he : ys = (List.range q.toNat).flatMap fun c => xs.filter (atC h c) := by
    refine sorted_ext (fun x => x.2.1) hlt hF fun x => ?_
    rw [hp.mem_iff, List.mem_filter, List.mem_flatMap]
    constructor
    · rintro ⟨hx, hl⟩
      have b := berOk_bd (berV_mem hv x hx)
      refine ⟨x.2.1.toNat, List.mem_range.2 (by omega), List.mem_filter.2 ⟨hx, ?_⟩⟩
      simp only [atC, Bool.and_eq_true, decide_eq_true_eq]
      exact ⟨by omega, hl⟩
    · rintro ⟨c, _, hx⟩
      have h1 := List.mem_filter.1 hx
      have h2 := h1.2
      simp only [atC, Bool.and_eq_true] at h2
      exact ⟨h1.1, h2.2⟩
  rw [he, List.map_flatMap]
  unfold lyTo lyB
  rw [List.take_length]
theorem lyTo_len {q : Int} {xs : List (Int × Int × Int × Int × Int)} {h : Int} (hv : berV q xs = true) : ∀ n : Nat, (lyTo xs h n).length ≤ 10 * n
  | 0 => by simp [lyTo]
  | n + 1 => by
    have ih := lyTo_len (h := h) hv n
    have h1 := lyB_len xs h n xs.length
    have h2 := berV_len hv
    rw [lyTo_succ, List.length_append]
    omega
theorem lyV_len (q : Int) (xs : List (Int × Int × Int × Int × Int)) (h : Int) : (lyV q xs h).1.length ≤ 200 := by
  unfold lyV
  by_cases hv : hourOk q xs h = true
  · rw [if_pos hv]
    have h1 := lyTo_len (h := h) (hourOk_bd hv).1 q.toNat
    have h2 := inB_bd (berV_quay (hourOk_bd hv).1)
    simp only
    omega
  · rw [if_neg hv]; simp
theorem lyV_no {q : Int} {xs : List (Int × Int × Int × Int × Int)} {h : Int} (e : hourOk q xs h = false) : lyV q xs h = ([], false) := by simp [lyV, e]
theorem lyV_yes {q : Int} {xs : List (Int × Int × Int × Int × Int)} {h : Int} (e : hourOk q xs h = true) : lyV q xs h = (lyTo xs h q.toNat, true) := by simp [lyV, e]

end Go.Proofs.Ytfipmalomhflgaa
namespace Go.Proofs.Ytfipmalomhflgaa
set_option linter.unusedSimpArgs false
set_option linter.unusedVariables false
open Go.RowKit

section
variable {q : Int} {xs : List (Int × Int × Int × Int × Int)} {l s f : Int}
theorem earlyV_b (h : berV q xs = false) : earlyV q xs l s f = (0, 0, false) := by simp [earlyV, h]
theorem earlyV_l (h : ¬ 1 ≤ l) : earlyV q xs l s f = (0, 0, false) := by unfold earlyV; rw [if_neg (fun e => h e.2.1)]
theorem earlyV_s1 (h : ¬ 1 ≤ s) : earlyV q xs l s f = (0, 0, false) := by unfold earlyV; rw [if_neg (fun e => h e.2.2.1)]
theorem earlyV_f (h : inB f 0 500 = false) : earlyV q xs l s f = (0, 0, false) := by
  unfold earlyV
  rw [if_neg (fun e => ?_)]
  simp [inB] at h
  have := h e.2.2.2.1
  omega
theorem earlyV_q (h : q < l) : earlyV q xs l s f = (0, 0, false) := by
  unfold earlyV
  rw [earlyF_big (.inl h)]
  split <;> rfl
theorem earlyV_s (h : inB s 1 500 = false) : earlyV q xs l s f = (0, 0, false) := by
  unfold earlyV
  split
  · rename_i e
    have : 500 < s + f := by
      simp [inB] at h
      have := h e.2.2.1
      omega
    rw [earlyF_big (.inr this)]
    rfl
  · rfl
theorem earlyV_eq (hb : berV q xs = true) (hl : 1 ≤ l) (hs : 1 ≤ s) (hf : inB f 0 500 = true) : earlyV q xs l s f = earlyR f (earlyF q xs l s f) := by
  unfold earlyV
  have := inB_bd hf
  rw [if_pos ⟨hb, hl, hs, this.1, this.2⟩]
end

end Go.Proofs.Ytfipmalomhflgaa
namespace Go.Proofs.Ytfipmalomhflgaa
set_option linter.unusedSimpArgs false
set_option linter.unusedVariables false
open Go.RowKit

def CurS (w : World) (b : Nat) (A : Option Addr) (cs : List Int) (cap : Nat) (m : Int) : Prop := Cur w b A cs.length cap m ∧ RdsN b cB 1 w A cs
theorem RdsN.grownb {α : Type} {cf : α → List Value} {sz b : Nat} {w w' : World} {A : Option Addr} {xs : List α} (h : RdsN b cf sz w A xs) (hb : b < w.heap.size) (hg : w.grownBy w' (some b)) : RdsN b cf sz w' A xs := by
  intro i x hx
  obtain ⟨g, off, hA, hlt, hc⟩ := h i x hx
  refine ⟨g, off, hA, hlt, fun j v hv => ?_⟩
  exact (World.cell?_of_block (a := ⟨g, off + i * sz + j, none⟩) (hg.block g (by omega) (by simp; omega))).trans (hc j v hv)
theorem CurS.lt {w : World} {b cap : Nat} {A : Option Addr} {cs : List Int} {m : Int} (h : CurS w b A cs cap m) : b < w.heap.size := h.1.1
theorem CurS.mono {w : World} {b cap : Nat} {A : Option Addr} {cs : List Int} {m m' : Int} (h : CurS w b A cs cap m) (hm : m ≤ m') : CurS w b A cs cap m' := by
  obtain ⟨⟨hb, q0, ⟨a, h1, h2, q1⟩, q2, qz⟩, hr⟩ := h
  exact ⟨⟨hb, q0, ⟨a, h1, by omega, q1⟩, q2, qz⟩, hr⟩
/-- the cursor stays where nothing at or below its block has turned -/
theorem CurS.below {w w' : World} {b cap : Nat} {A : Option Addr} {cs : List Int} {m : Int} (h : CurS w b A cs cap m) (hb : Below w.heap.size w w') : CurS w' b A cs cap m := by
  obtain ⟨⟨hlt, q0, ⟨a, h1, h2, q1⟩, ⟨s, q2⟩, qz⟩, hr⟩ := h
  have hc : ∀ o, w'.cell? ⟨b, o, none⟩ = w.cell? ⟨b, o, none⟩ := fun o => hb.cell (p := ⟨b, o, none⟩) hlt
  refine ⟨⟨Nat.lt_of_lt_of_le hlt hb.size, by rw [hc]; exact q0, ⟨a, h1, h2, by rw [hc]; exact q1⟩, ⟨s, by rw [hc]; exact q2⟩, fun o => by rw [hb.frozen (p := ⟨b, o, none⟩) hlt]; exact qz o⟩, ?_⟩
  intro i x hx
  obtain ⟨g, off, hA, hg, hcc⟩ := hr i x hx
  exact ⟨g, off, hA, hg, fun j v hv => (hb.cell (p := ⟨g, off + i * 1 + j, none⟩) (by show g < _; omega)).trans (hcc j v hv)⟩
theorem grown_trans {a w w' : World} {row : Option Nat} (h : a.grownBy w row) (h' : w.grownBy w' row) : a.grownBy w' row :=
  ⟨h'.os.trans h.os, h'.tape.trans h.tape, h'.output.trans h.output, Nat.le_trans h.size h'.size, fun i hi hne => (h'.block i (Nat.lt_of_lt_of_le hi h.size) hne).trans (h.block i hi hne)⟩
theorem grown_of_below {w w' : World} {row : Option Nat} (h : Below w.heap.size w w') : w.grownBy w' row := ⟨h.os, h.tape, h.output, h.size, fun i hi _ => h.block i hi⟩
theorem grown_alloc (w : World) (o : Obj) (row : Option Nat) : w.grownBy (w.alloc o) row := grown_of_below ((Below.refl _ _).alloc (Nat.le_refl _) _)
theorem c_nextS (b : Nat) (A : Option Addr) (cs : List Int) (cap : Nat) (m : Int) (w : World) (hcu : CurS w b A cs cap m) (hby : Bytes cs) (hm : 0 ≤ m ∧ m ≤ 1000000000) (hl : cs.length ≤ 1000000000) :
    Calls Try.prog 88 #[.pointer (some ⟨b, 0, none⟩)] w fun e w' => ∃ x : Int, e = .returned (.int .i64 x) ∧ 0 ≤ x ∧ x ≤ 255 ∧ CurS w' b A cs cap (m + 1) ∧ w.grownBy w' (some b) :=
  (c_next b A cs cap m w hcu.1 hcu.2 hby hm hl).mono fun _ _ ⟨x, he, h1, h2, h3, h4⟩ => ⟨x, he, h1, h2, ⟨h3, hcu.2.grownb hcu.1.1 h4⟩, h4⟩
theorem emod_bd {x n : Int} (hn : 1 < n) : 0 ≤ x % n ∧ x % n < n := ⟨Int.emod_nonneg _ (by omega), Int.emod_lt_of_pos _ (by omega)⟩
set_option maxHeartbeats 2000000 in
theorem c_pick (b : Nat) (A : Option Addr) (cs : List Int) (cap : Nat) (m n : Int) (w : World) (hcu : CurS w b A cs cap m) (hby : Bytes cs) (hm : 0 ≤ m ∧ m ≤ 900000000) (hl : cs.length ≤ 1000000000) (hn : n ≤ 200) :
    Calls Try.prog 74 #[.pointer (some ⟨b, 0, none⟩), .int .i64 n] w fun e w' => ∃ x : Int, e = .returned (.int .i64 x) ∧ 0 ≤ x ∧ (x = 0 ∨ x < n) ∧ CurS w' b A cs cap (m + 1) ∧ w.grownBy w' (some b) := by
  by_cases h1 : n ≤ 1
  · go_enter Try.func74, Try.ntmps74
    go_wp2_with (fail)
    go_ret
    exact ⟨0, rfl, by omega, .inl rfl, hcu.mono (by omega), World.grownBy.refl _ _⟩
  · go_enter Try.func74, Try.ntmps74
    go_wp2_with (fail)
    refine (c_nextS b A cs cap m _ hcu hby (by omega) hl).mono ?_
    rintro e w1 ⟨x, rfl, hx0, hx1, hcu1, hg1⟩
    go_wp2_with (fail)
    have ht := emod_bd (x := x) (n := n) (by omega)
    go_ret
    exact ⟨x % n, rfl, ht.1, .inr ht.2, hcu1, hg1⟩

end Go.Proofs.Ytfipmalomhflgaa
namespace Go.Proofs.Ytfipmalomhflgaa
set_option linter.unusedSimpArgs false
set_option linter.unusedVariables false
open Go.RowKit

def cI (x : Int) : List Value := [.int .i64 x]
theorem Rds.of_block {w : World} {g : Nat} {cur : Array Value} {T : TypeId} {fr : Nat × Nat} {L : List Int} (h : w.heap[g]? = some (.cells cur T fr)) (hc : ∀ (i : Nat) (x : Int), L[i]? = some x → cur[i]? = some (Value.int .i64 x)) : Rds cI 1 w (some ⟨g, 0, none⟩) L := by
  intro i x hx
  have hlt : g < w.heap.size := by
    rcases Nat.lt_or_ge g w.heap.size with hl | hl
    · exact hl
    · rw [Array.getElem?_eq_none hl] at h; cases h
  refine ⟨g, 0, rfl, hlt, fun j v hv => ?_⟩
  match j, hv with
  | 0, hv =>
    simp only [cI, List.getElem?_cons_zero, Option.some.injEq] at hv
    subst hv
    simp [World.cell?, h, hc i x hx]
  | j + 1, hv => simp [cI] at hv
set_option maxHeartbeats 2000000 in
theorem c_one (b : Nat) (A : Option Addr) (cs : List Int) (cap : Nat) (m n : Int) (w : World) (hcu : CurS w b A cs cap m) (hby : Bytes cs) (hm : 0 ≤ m ∧ m ≤ 900000000) (hl : cs.length ≤ 1000000000) (hn : n ≤ 200) :
    Calls Try.prog 78 #[.pointer (some ⟨b, 0, none⟩), .int .i64 n] w fun e w' => ∃ y : Bool, e = .returned (.bool y) ∧ CurS w' b A cs cap (m + 1) ∧ w.grownBy w' (some b) := by
  go_enter Try.func78, Try.ntmps78
  go_wp2_with (fail)
  refine (c_pick b A cs cap m n _ hcu hby hm hl hn).mono ?_
  rintro e w1 ⟨x, rfl, hx0, hx1, hcu1, hg1⟩
  go_wp2_with (fail)
  all_goals go_ret
  all_goals exact ⟨_, rfl, hcu1, hg1⟩
set_option maxHeartbeats 2000000 in
theorem c_among (b : Nat) (A : Option Addr) (cs : List Int) (cap : Nat) (m : Int) (AL : Option Addr) (L : List Int) (capL : Nat) (lo hi : Int) (w : World) (hcu : CurS w b A cs cap m) (hby : Bytes cs) (hm : 0 ≤ m ∧ m ≤ 900000000) (hl : cs.length ≤ 1000000000)
    (hL : Rds cI 1 w AL L) (hlen : 0 < L.length ∧ L.length ≤ 200) (hne : ∀ a, AL = some a → some a.block ≠ some b) (hbd : ∀ k (hk : k < L.length), lo ≤ L[k] ∧ L[k] ≤ hi) :
    Calls Try.prog 73 #[.pointer (some ⟨b, 0, none⟩), .slice AL L.length capL] w fun e w' => ∃ y : Int, e = .returned (.int .i64 y) ∧ lo ≤ y ∧ y ≤ hi ∧ CurS w' b A cs cap (m + 1) ∧ w.grownBy w' (some b) := by
  go_enter Try.func73, Try.ntmps73
  go_wp2_with (fail)
  refine (c_pick b A cs cap m L.length _ hcu hby hm hl (by omega)).mono ?_
  rintro e w1 ⟨x, rfl, hx0, hx1, hcu1, hg1⟩
  obtain ⟨k, rfl⟩ : ∃ k : Nat, x = k := ⟨x.toNat, by omega⟩
  have hk : k < L.length := by omega
  have hL1 := hL.grown hg1 hne
  obtain ⟨bx, ox, rfl, hbx, hcx⟩ := hL1 k L[k] (List.getElem?_eq_getElem hk)
  have hx := hcx 0 _ rfl
  simp only [Nat.add_zero, Nat.mul_one] at hx
  have hy := hbd k hk
  clear hcx hL1 hbd hL hne
  generalize L[k] = y at *
  generalize L.length = n at *
  go_wp2_with (fail)
  all_goals go_ret
  all_goals exact ⟨y, rfl, hy.1, hy.2, hcu1, hg1⟩

end Go.Proofs.Ytfipmalomhflgaa
namespace Go.Proofs.Ytfipmalomhflgaa
set_option linter.unusedSimpArgs false
set_option linter.unusedVariables false
open Go.RowKit

theorem cellRow {W w' : World} {b : Nat} (hg : W.grownBy w' (some b)) : ∀ g o, w'.cell? ⟨g, o, none⟩ = if g < W.heap.size ∧ g ≠ b then W.cell? ⟨g, o, none⟩ else far w' g o := by
  intro g o
  by_cases h : g < W.heap.size ∧ g ≠ b
  · rw [if_pos h]; exact World.cell?_of_block (a := ⟨g, o, none⟩) (hg.block g h.1 (by simpa using h.2))
  · rw [if_neg h]; rfl
theorem frozRow {W w' : World} {b : Nat} (hg : W.grownBy w' (some b)) : ∀ g o, w'.frozen? ⟨g, o, none⟩ = if g < W.heap.size ∧ g ≠ b then W.frozen? ⟨g, o, none⟩ else farz w' g o := by
  intro g o
  by_cases h : g < W.heap.size ∧ g ≠ b
  · rw [if_pos h]; exact World.frozen?_of_block (a := ⟨g, o, none⟩) (hg.block g h.1 (by simpa using h.2))
  · rw [if_neg h]; rfl
theorem Rds.of_lit {w : World} {g : Nat} {cur : Array Value} {T : TypeId} {L : List Int} (hg : g = w.heap.size) (hc : ∀ (i : Nat) (x : Int), L[i]? = some x → cur[i]? = some (Value.int .i64 x)) : Rds cI 1 (w.alloc (.cells cur T)) (some ⟨g, 0, none⟩) L := by
  subst hg
  exact Rds.of_block (heap_alloc_new _ _) hc
theorem CurS.setc {w : World} {b cap : Nat} {A : Option Addr} {cs : List Int} {m : Int} {p : Addr} {v : Value} (h : CurS w b A cs cap m) (hp : b < p.block) : CurS (w.setCell p v) b A cs cap m := by
  obtain ⟨⟨hlt, q0, ⟨a, h1, h2, q1⟩, ⟨s, q2⟩, qz⟩, hr⟩ := h
  have hk : ∀ g, g ≤ b → (w.setCell p v).heap[g]? = w.heap[g]? := fun g hg => Below.heap_setCell w p v g (by omega)
  have hc : ∀ g, g ≤ b → ∀ o, (w.setCell p v).cell? ⟨g, o, none⟩ = w.cell? ⟨g, o, none⟩ := fun g hg o => World.cell?_of_block (a := ⟨g, o, none⟩) (hk g hg)
  have hz : ∀ o, (w.setCell p v).frozen? ⟨b, o, none⟩ = w.frozen? ⟨b, o, none⟩ := fun o => World.frozen?_of_block (a := ⟨b, o, none⟩) (hk b (Nat.le_refl _))
  refine ⟨⟨by simpa [World.setCell] using hlt, by rw [hc b (Nat.le_refl _)]; exact q0, ⟨a, h1, h2, by rw [hc b (Nat.le_refl _)]; exact q1⟩, ⟨s, by rw [hc b (Nat.le_refl _)]; exact q2⟩, fun o => by rw [hz]; exact qz o⟩, ?_⟩
  intro i x hx
  obtain ⟨g, off, hA, hg, hcc⟩ := hr i x hx
  exact ⟨g, off, hA, hg, fun j u hu => (hc g (by omega) _).trans (hcc j u hu)⟩
theorem CurS.allo {w : World} {b cap : Nat} {A : Option Addr} {cs : List Int} {m : Int} {o : Obj} (h : CurS w b A cs cap m) : CurS (w.alloc o) b A cs cap m := h.below ((Below.refl _ _).alloc (Nat.le_refl _) _)
theorem CurS.drw {w : World} {b cap : Nat} {A : Option Addr} {cs : List Int} {m : Int} (h : CurS w b A cs cap m) : CurS w.drew b A cs cap m := h.below ((Below.refl _ _).drew)
theorem grownA {a w : World} {row : Option Nat} {o : Obj} (h : a.grownBy w row) : a.grownBy (w.alloc o) row := grown_trans h (grown_alloc w o row)
theorem grownS {a w : World} {row : Option Nat} {p : Addr} {v : Value} (h : a.grownBy w row) (hp : a.heap.size ≤ p.block) : a.grownBy (w.setCell p v) row :=
  ⟨h.os, h.tape, h.output, by simpa [World.setCell] using h.size, fun i hi hne => (Below.heap_setCell w p v i (by omega)).trans (h.block i hi hne)⟩
theorem grownT {a W w' : World} {row : Option Nat} (hg : W.grownBy w' row) (h : a.grownBy W row) : a.grownBy w' row := grown_trans h hg

end Go.Proofs.Ytfipmalomhflgaa
namespace Go.Proofs.Ytfipmalomhflgaa
set_option linter.unusedSimpArgs false
set_option linter.unusedVariables false
open Go.RowKit


end Go.Proofs.Ytfipmalomhflgaa
namespace Go.Proofs.Ytfipmalomhflgaa
set_option linter.unusedSimpArgs false
set_option linter.unusedVariables false
open Go.RowKit

theorem CurS.keep {w w' : World} {b cap : Nat} {A : Option Addr} {cs : List Int} {m : Int} (h : CurS w b A cs cap m) (hk : ∀ g, g ≤ b → w'.heap[g]? = w.heap[g]?) (hs : w.heap.size ≤ w'.heap.size) : CurS w' b A cs cap m := by
  obtain ⟨⟨hlt, q0, ⟨a, h1, h2, q1⟩, ⟨s, q2⟩, qz⟩, hr⟩ := h
  have hc : ∀ g, g ≤ b → ∀ o, w'.cell? ⟨g, o, none⟩ = w.cell? ⟨g, o, none⟩ := fun g hg o => World.cell?_of_block (a := ⟨g, o, none⟩) (hk g hg)
  have hz : ∀ o, w'.frozen? ⟨b, o, none⟩ = w.frozen? ⟨b, o, none⟩ := fun o => World.frozen?_of_block (a := ⟨b, o, none⟩) (hk b (Nat.le_refl _))
  refine ⟨⟨by omega, by rw [hc b (Nat.le_refl _)]; exact q0, ⟨a, h1, h2, by rw [hc b (Nat.le_refl _)]; exact q1⟩, ⟨s, by rw [hc b (Nat.le_refl _)]; exact q2⟩, fun o => by rw [hz]; exact qz o⟩, ?_⟩
  intro i x hx
  obtain ⟨g, off, hA, hg, hcc⟩ := hr i x hx
  exact ⟨g, off, hA, hg, fun j u hu => (hc g (by omega) _).trans (hcc j u hu)⟩
theorem ne_blk {A2 : Option Addr} {B g : Nat} (hl : Lo B A2) (hg : g < B) : some g ≠ blkO A2 := by
  intro e
  cases hA : A2 with
  | none => rw [hA] at e; cases e
  | some x =>
    rw [hA] at e
    simp only [blkO, Option.map_some, Option.some.injEq] at e
    have := hl x hA
    omega
/-- the cursor stays where a row from block B on has grown -/
theorem CurS.other {w w' : World} {b cap B : Nat} {A A2 : Option Addr} {cs : List Int} {m : Int} (h : CurS w b A cs cap m) (hg : w.grownBy w' (blkO A2)) (hl : Lo B A2) (hB : b < B) : CurS w' b A cs cap m :=
  h.keep (fun g hgb => hg.block g (Nat.lt_of_le_of_lt hgb h.lt) (ne_blk hl (by omega))) hg.size
theorem grown_other {a w w' : World} {row : Option Nat} {A2 : Option Addr} (h : a.grownBy w row) (hg : w.grownBy w' (blkO A2)) (hl : Lo a.heap.size A2) : a.grownBy w' row :=
  ⟨hg.os.trans h.os, hg.tape.trans h.tape, hg.output.trans h.output, Nat.le_trans h.size hg.size, fun i hi hne => (hg.block i (Nat.lt_of_lt_of_le hi h.size) (ne_blk hl hi)).trans (h.block i hi hne)⟩
theorem FreshA.rowb {α : Type} {cf : α → List Value} {sz B cap b : Nat} {T : TypeId} {w w' : World} {A : Option Addr} {xs : List α} (h : FreshA cf sz T B w A cap xs) (hg : w.grownBy w' (some b)) (hb : b < B) : FreshA cf sz T B w' A cap xs :=
  h.grown hg fun a ha e => by
    have := h.lo a ha
    simp only [Option.some.injEq] at e
    omega

end Go.Proofs.Ytfipmalomhflgaa
namespace Go.Proofs.Ytfipmalomhflgaa
set_option linter.unusedSimpArgs false
set_option linter.unusedVariables false
open Go.RowKit


end Go.Proofs.Ytfipmalomhflgaa
namespace Go.Proofs.Ytfipmalomhflgaa
set_option linter.unusedSimpArgs false
set_option linter.unusedVariables false
open Go.RowKit


end Go.Proofs.Ytfipmalomhflgaa
namespace Go.Proofs.Ytfipmalomhflgaa
set_option linter.unusedSimpArgs false
set_option linter.unusedVariables false
open Go.RowKit

set_option maxHeartbeats 2000000 in
theorem c_spec_l16One (q i c l f t : Int) (w : World) (hq : 1 ≤ q ∧ q ≤ 20) :
    Calls Try.prog 79 #[.int .i64 (q), .agg #[.int .i64 (i), .int .i64 (c), .int .i64 (l), .int .i64 (f), .int .i64 (t)]] w fun e w' => e = .returned (.bool (berB q i c l f t)) ∧ Below w.heap.size w w' := by
  by_cases hs0 : inB i 1 99 = true
  rotate_left
  · have hn : inB i 1 99 = false := Bool.eq_false_iff.2 hs0
    clear hs0
    go_enter Try.func79, Try.ntmps79
    go_wp2_with (first | (go_at_call 57; refine (c_spec_l1In _ _ _ _ ).mono ?_; rintro e w' ⟨rfl, hb⟩; have hc := cellOf hb; have hf := frozOf hb; have hz := sizeOf hb; try simp at hz))
    all_goals go_ret
    all_goals
      refine ⟨ret_bool ?_, ?_⟩
      · first | rfl | omega | (simp [berB, inB, hn]; done) | (simp [berB, inB, hn]; omega) | (simp [berB, inB, hn]; (repeat' split) <;> (first | omega | (simp; done) | (simp; omega))) | (simp_all [berB, inB]; done) | (simp_all [berB, inB]; omega)
      · (repeat' (first | exact Below.refl _ _ | assumption | refine Below.setCell ?_ ?_ _ | refine Below.drew ?_ | refine Below.alloc ?_ ?_ _ | refine Below.trans ?_ (Below.mono (by assumption) ?_) | (simp; done) | (simp; omega) | omega))
  have hbd0 := inB_bd hs0
  by_cases hs1 : inB l 1 q = true
  rotate_left
  · have hn : inB l 1 q = false := Bool.eq_false_iff.2 hs1
    clear hs1
    go_enter Try.func79, Try.ntmps79
    go_wp2_with (first | (go_at_call 57; refine (c_spec_l1In _ _ _ _ ).mono ?_; rintro e w' ⟨rfl, hb⟩; have hc := cellOf hb; have hf := frozOf hb; have hz := sizeOf hb; try simp at hz))
    all_goals go_ret
    all_goals
      refine ⟨ret_bool ?_, ?_⟩
      · first | rfl | omega | (simp [berB, inB, hs0, hn]; done) | (simp [berB, inB, hs0, hn]; omega) | (simp [berB, inB, hs0, hn]; (repeat' split) <;> (first | omega | (simp; done) | (simp; omega))) | (simp_all [berB, inB]; done) | (simp_all [berB, inB]; omega)
      · (repeat' (first | exact Below.refl _ _ | assumption | refine Below.setCell ?_ ?_ _ | refine Below.drew ?_ | refine Below.alloc ?_ ?_ _ | refine Below.trans ?_ (Below.mono (by assumption) ?_) | (simp; done) | (simp; omega) | omega))
  have hbd1 := inB_bd hs1
  by_cases hs2 : inB c 0 (q - l) = true
  rotate_left
  · have hn : inB c 0 (q - l) = false := Bool.eq_false_iff.2 hs2
    clear hs2
    go_enter Try.func79, Try.ntmps79
    go_wp2_with (first | (go_at_call 57; refine (c_spec_l1In _ _ _ _ ).mono ?_; rintro e w' ⟨rfl, hb⟩; have hc := cellOf hb; have hf := frozOf hb; have hz := sizeOf hb; try simp at hz))
    all_goals go_ret
    all_goals
      refine ⟨ret_bool ?_, ?_⟩
      · first | rfl | omega | (simp [berB, inB, hs0, hs1, hn]; done) | (simp [berB, inB, hs0, hs1, hn]; omega) | (simp [berB, inB, hs0, hs1, hn]; (repeat' split) <;> (first | omega | (simp; done) | (simp; omega))) | (simp_all [berB, inB]; done) | (simp_all [berB, inB]; omega)
      · (repeat' (first | exact Below.refl _ _ | assumption | refine Below.setCell ?_ ?_ _ | refine Below.drew ?_ | refine Below.alloc ?_ ?_ _ | refine Below.trans ?_ (Below.mono (by assumption) ?_) | (simp; done) | (simp; omega) | omega))
  have hbd2 := inB_bd hs2
  by_cases hs3 : inB f 0 499 = true
  rotate_left
  · have hn : inB f 0 499 = false := Bool.eq_false_iff.2 hs3
    clear hs3
    go_enter Try.func79, Try.ntmps79
    go_wp2_with (first | (go_at_call 57; refine (c_spec_l1In _ _ _ _ ).mono ?_; rintro e w' ⟨rfl, hb⟩; have hc := cellOf hb; have hf := frozOf hb; have hz := sizeOf hb; try simp at hz))
    all_goals go_ret
    all_goals
      refine ⟨ret_bool ?_, ?_⟩
      · first | rfl | omega | (simp [berB, inB, hs0, hs1, hs2, hn]; done) | (simp [berB, inB, hs0, hs1, hs2, hn]; omega) | (simp [berB, inB, hs0, hs1, hs2, hn]; (repeat' split) <;> (first | omega | (simp; done) | (simp; omega))) | (simp_all [berB, inB]; done) | (simp_all [berB, inB]; omega)
      · (repeat' (first | exact Below.refl _ _ | assumption | refine Below.setCell ?_ ?_ _ | refine Below.drew ?_ | refine Below.alloc ?_ ?_ _ | refine Below.trans ?_ (Below.mono (by assumption) ?_) | (simp; done) | (simp; omega) | omega))
  have hbd3 := inB_bd hs3
  go_enter Try.func79, Try.ntmps79
  go_wp2_with (first | (go_at_call 57; refine (c_spec_l1In _ _ _ _ ).mono ?_; rintro e w' ⟨rfl, hb⟩; have hc := cellOf hb; have hf := frozOf hb; have hz := sizeOf hb; try simp at hz))
  all_goals go_ret
  all_goals
    refine ⟨ret_bool ?_, ?_⟩
    · first | rfl | omega | (simp [berB, inB, hs0, hs1, hs2, hs3]; done) | (simp [berB, inB, hs0, hs1, hs2, hs3]; omega) | (simp [berB, inB, hs0, hs1, hs2, hs3]; (repeat' split) <;> (first | omega | (simp; done) | (simp; omega))) | (simp_all [berB, inB]; done) | (simp_all [berB, inB]; omega)
    · (repeat' (first | exact Below.refl _ _ | assumption | refine Below.setCell ?_ ?_ _ | refine Below.drew ?_ | refine Below.alloc ?_ ?_ _ | refine Below.trans ?_ (Below.mono (by assumption) ?_) | (simp; done) | (simp; omega) | omega))

end Go.Proofs.Ytfipmalomhflgaa
namespace Go.Proofs.Ytfipmalomhflgaa
set_option linter.unusedSimpArgs false
set_option linter.unusedVariables false
open Go.RowKit

set_option maxHeartbeats 2000000 in
theorem c_spec_l16Clash (i c l f t i' c' l' f' t' : Int) (w : World) (hb0 : -9999 ≤ c ∧ c ≤ 9999) (hb1 : -9999 ≤ l ∧ l ≤ 9999) (hb2 : -9999 ≤ f ∧ f ≤ 9999) (hb3 : -9999 ≤ t ∧ t ≤ 9999) (hb4 : -9999 ≤ c' ∧ c' ≤ 9999) (hb5 : -9999 ≤ l' ∧ l' ≤ 9999) (hb6 : -9999 ≤ f' ∧ f' ≤ 9999) (hb7 : -9999 ≤ t' ∧ t' ≤ 9999) :
    Calls Try.prog 80 #[.agg #[.int .i64 (i), .int .i64 (c), .int .i64 (l), .int .i64 (f), .int .i64 (t)], .agg #[.int .i64 (i'), .int .i64 (c'), .int .i64 (l'), .int .i64 (f'), .int .i64 (t')]] w fun e w' => e = .returned (.bool (crashB c l f t c' l' f' t')) ∧ Below w.heap.size w w' := by
  go_enter Try.func80, Try.ntmps80
  go_wp2
  all_goals go_ret
  all_goals
    refine ⟨ret_bool ?_, ?_⟩
    · first | rfl | omega | (simp [crashB]; done) | (simp [crashB]; omega) | (simp [crashB]; (repeat' split) <;> (first | omega | (simp; done) | (simp; omega))) | (simp_all [crashB]; done) | (simp_all [crashB]; omega)
    · (repeat' (first | exact Below.refl _ _ | assumption | refine Below.setCell ?_ ?_ _ | refine Below.drew ?_ | refine Below.alloc ?_ ?_ _ | refine Below.trans ?_ (Below.mono (by assumption) ?_) | (simp; done) | (simp; omega) | omega))

end Go.Proofs.Ytfipmalomhflgaa
namespace Go.Proofs.Ytfipmalomhflgaa
set_option linter.unusedSimpArgs false
set_option linter.unusedVariables false
open Go.RowKit

def FS52_11 (x z : Int × Int × Int × Int × Int) (bx ox m k n0 cap : Nat) (w W0 : World) (iq : Nat) (v : Value) (w1 : World) : Prop := match iq with
  | 0 => v = .slice (some ⟨bx, ox, none⟩) n0 cap
  | 1 => v = .int .i64 (m)
  | 2 => v = .pointer (some ⟨bx, ox + m * 5, none⟩)
  | 3 => v = .agg #[.int .i64 (z.1), .int .i64 (z.2.1), .int .i64 (z.2.2.1), .int .i64 (z.2.2.2.1), .int .i64 (z.2.2.2.2)]
  | 4 => v = .slice (some ⟨bx, ox, none⟩) n0 cap
  | 5 => v = .int .i64 (k + 1)
  | 6 => v = .pointer (some ⟨bx, ox + (k + 1) * 5, none⟩)
  | 7 => v = .agg #[.int .i64 (x.1), .int .i64 (x.2.1), .int .i64 (x.2.2.1), .int .i64 (x.2.2.2.1), .int .i64 (x.2.2.2.2)]
  | 8 => v = .bool (crashB (z.2.1) (z.2.2.1) (z.2.2.2.1) (z.2.2.2.2) (x.2.1) (x.2.2.1) (x.2.2.2.1) (x.2.2.2.2))
  | _ => True

def FS52_6 (q : Int) (wr : World) (x y : Int × Int × Int × Int × Int) (bx ox k n0 cap : Nat) (w W0 : World) (iq : Nat) (v : Value) (w1 : World) : Prop := match iq with
  | 0 => v = .int .i64 (q)
  | 1 => v = .slice (some ⟨bx, ox, none⟩) n0 cap
  | 2 => v = .int .i64 (0)
  | 3 => v = .pointer (some ⟨bx, ox + 0 * 5, none⟩)
  | 4 => v = .agg #[.int .i64 (x.1), .int .i64 (x.2.1), .int .i64 (x.2.2.1), .int .i64 (x.2.2.2.1), .int .i64 (x.2.2.2.2)]
  | 5 => v = .bool (true)
  | 6 => v = .bool (false)
  | 7 => v = .bool (false)
  | 8 => v = .int .i64 (0)
  | 9 => v = .bool (false)
  | 10 => v = .bool (false)
  | 11 => v = undef
  | 12 => v = undef
  | 13 => v = undef
  | 14 => v = undef
  | 15 => v = undef
  | 16 => v = undef
  | 17 => v = undef
  | 18 => v = undef
  | 19 => v = undef
  | 20 => v = undef
  | 21 => v = undef
  | 22 => v = undef
  | 23 => v = .bool (false)
  | 24 => v = .bool (false)
  | _ => True

def FS52_6_9 (q : Int) (wr : World) (x y : Int × Int × Int × Int × Int) (bx ox k n0 cap : Nat) (w W0 : World) (iq : Nat) (v : Value) (w1 : World) : Prop := match iq with
  | 0 => v = .int .i64 (q)
  | 1 => v = .slice (some ⟨bx, ox, none⟩) n0 cap
  | 2 => v = .int .i64 (0)
  | 3 => v = .pointer (some ⟨bx, ox + 0 * 5, none⟩)
  | 4 => v = .agg #[.int .i64 (x.1), .int .i64 (x.2.1), .int .i64 (x.2.2.1), .int .i64 (x.2.2.2.1), .int .i64 (x.2.2.2.2)]
  | 5 => v = .bool (false)
  | 6 => v = .bool (true)
  | 7 => v = .bool (true)
  | 8 => v = undef
  | 9 => v = undef
  | 10 => v = undef
  | 11 => v = undef
  | 12 => v = undef
  | 13 => v = undef
  | 14 => v = undef
  | 15 => v = undef
  | 16 => v = undef
  | 17 => v = undef
  | 18 => v = undef
  | 19 => v = undef
  | 20 => v = undef
  | 21 => v = undef
  | 22 => v = undef
  | 23 => v = undef
  | 24 => v = .bool (true)
  | _ => True

def FS52_6_10 (q : Int) (wr : World) (x y : Int × Int × Int × Int × Int) (bx ox k n0 cap : Nat) (w W0 : World) (iq : Nat) (v : Value) (w1 : World) : Prop := match iq with
  | 0 => v = .int .i64 (q)
  | 1 => v = .slice (some ⟨bx, ox, none⟩) n0 cap
  | 2 => v = .int .i64 (k + 1)
  | 3 => v = .pointer (some ⟨bx, ox + (k + 1) * 5, none⟩)
  | 4 => v = .agg #[.int .i64 (x.1), .int .i64 (x.2.1), .int .i64 (x.2.2.1), .int .i64 (x.2.2.2.1), .int .i64 (x.2.2.2.2)]
  | 5 => v = .bool (false)
  | 6 => v = .bool (true)
  | 7 => v = .bool (true)
  | 8 => v = undef
  | 9 => v = undef
  | 10 => v = undef
  | 11 => v = undef
  | 12 => v = undef
  | 13 => v = undef
  | 14 => v = undef
  | 15 => v = undef
  | 16 => v = undef
  | 17 => v = undef
  | 18 => v = undef
  | 19 => v = undef
  | 20 => v = undef
  | 21 => v = undef
  | 22 => v = undef
  | 23 => v = undef
  | 24 => v = .bool (true)
  | _ => True

def FS52_6_11 (q : Int) (wr : World) (x y : Int × Int × Int × Int × Int) (bx ox k n0 cap : Nat) (w W0 : World) (iq : Nat) (v : Value) (w1 : World) : Prop := match iq with
  | 0 => v = .int .i64 (q)
  | 1 => v = .slice (some ⟨bx, ox, none⟩) n0 cap
  | 2 => v = .int .i64 (k + 1)
  | 3 => v = .pointer (some ⟨bx, ox + (k + 1) * 5, none⟩)
  | 4 => v = .agg #[.int .i64 (x.1), .int .i64 (x.2.1), .int .i64 (x.2.2.1), .int .i64 (x.2.2.2.1), .int .i64 (x.2.2.2.2)]
  | 5 => v = .bool (true)
  | 6 => v = .bool (false)
  | 7 => v = .bool (false)
  | 8 => v = .int .i64 (k + 1)
  | 9 => v = .bool (true)
  | 10 => v = .bool (true)
  | 11 => v = .slice (some ⟨bx, ox, none⟩) n0 cap
  | 12 => v = .int .i64 (k + 1)
  | 13 => v = .int .i64 (k)
  | 14 => v = .pointer (some ⟨bx, ox + k * 5, none⟩)
  | 15 => v = .pointer (some ⟨bx, ox + k * 5, none⟩)
  | 16 => v = .int .i64 (y.1)
  | 17 => v = .slice (some ⟨bx, ox, none⟩) n0 cap
  | 18 => v = .int .i64 (k + 1)
  | 19 => v = .pointer (some ⟨bx, ox + (k + 1) * 5, none⟩)
  | 20 => v = .pointer (some ⟨bx, ox + (k + 1) * 5, none⟩)
  | 21 => v = .int .i64 (x.1)
  | 22 => v = .bool (true)
  | 23 => v = .bool (true)
  | 24 => v = .bool (true)
  | _ => True

def FS52_6_12 (q : Int) (wr : World) (x y : Int × Int × Int × Int × Int) (bx ox k n0 cap : Nat) (w W0 : World) (iq : Nat) (v : Value) (w1 : World) : Prop := match iq with
  | 0 => v = .int .i64 (q)
  | 1 => v = .slice (some ⟨bx, ox, none⟩) n0 cap
  | 2 => v = .int .i64 (k + 1)
  | 3 => v = .pointer (some ⟨bx, ox + (k + 1) * 5, none⟩)
  | 4 => v = .agg #[.int .i64 (x.1), .int .i64 (x.2.1), .int .i64 (x.2.2.1), .int .i64 (x.2.2.2.1), .int .i64 (x.2.2.2.2)]
  | 5 => v = .bool (true)
  | 6 => v = .bool (false)
  | 7 => v = .bool (false)
  | 8 => v = .int .i64 (k + 1)
  | 9 => v = .bool (true)
  | 10 => v = .bool (true)
  | 11 => v = .slice (some ⟨bx, ox, none⟩) n0 cap
  | 12 => v = .int .i64 (k + 1)
  | 13 => v = .int .i64 (k)
  | 14 => v = .pointer (some ⟨bx, ox + k * 5, none⟩)
  | 15 => v = .pointer (some ⟨bx, ox + k * 5, none⟩)
  | 16 => v = .int .i64 (y.1)
  | 17 => v = .slice (some ⟨bx, ox, none⟩) n0 cap
  | 18 => v = .int .i64 (k + 1)
  | 19 => v = .pointer (some ⟨bx, ox + (k + 1) * 5, none⟩)
  | 20 => v = .pointer (some ⟨bx, ox + (k + 1) * 5, none⟩)
  | 21 => v = .int .i64 (x.1)
  | 22 => v = .bool (false)
  | 23 => v = .bool (false)
  | 24 => v = .bool (false)
  | _ => True

set_option maxRecDepth 100000 in
set_option maxHeartbeats 4000000 in
theorem c_spec_l16Good (q : Int) (A : Option Addr) (xs : List (Int × Int × Int × Int × Int)) (cap : Nat) (w : World) (h0 : Rds cBer 5 w A xs) (hn : xs.length ≤ 9223372036854775807) :
    Calls Try.prog 52 #[.int .i64 q, .slice A xs.length cap] w fun e w' => e = .returned (.bool (berV q xs)) ∧ Below w.heap.size w w' := by
  by_cases hq : inB q 1 20 = true
  rotate_left
  · have hn0 : inB q 1 20 = false := Bool.eq_false_iff.2 hq
    have HV := hid (berV_noquay (xs := xs) hn0)
    clear hq
    go_enter Try.func52, Try.ntmps52
    go_wp2_with (first | (go_at_call 57; refine (c_spec_l1In _ _ _ _ ).mono ?_; rintro e w' ⟨rfl, hb⟩; have hc := cellOf hb; have hf := frozOf hb; have hz := sizeOf hb; try simp at hz))
    all_goals go_ret
    all_goals exact ⟨ret_bool (by rw [HV.out]), by (repeat' (first | exact Below.refl _ _ | assumption | refine Below.setCell ?_ ?_ _ | refine Below.drew ?_ | refine Below.alloc ?_ ?_ _ | refine Below.trans ?_ (Below.mono (by assumption) ?_) | (simp; done) | (simp; omega) | omega))⟩
  have hqb := inB_bd hq
  go_enter Try.func52, Try.ntmps52
  go_wp2_with (first | (go_at_call 57; refine (c_spec_l1In _ _ _ _ ).mono ?_; rintro e w' ⟨rfl, hb⟩; have hc := cellOf hb; have hf := frozOf hb; have hz := sizeOf hb; try simp at hz))
  go_loopw [5] (fun i wr => ∃ k : Nat, k ≤ xs.length ∧ k ≤ 11 ∧ i = .int .i64 k ∧ (∀ j, j < k → berAt q xs j = true) ∧ Below w.heap.size w wr) (fun i _ => xs.length - (intOf i).toNat)
  case atStart => exact ⟨0, Nat.zero_le _, by omega, rfl, fun j hj => absurd hj (Nat.not_lt_zero j), by (repeat' (first | exact Below.refl _ _ | assumption | refine Below.setCell ?_ ?_ _ | refine Below.drew ?_ | refine Below.alloc ?_ ?_ _ | refine Below.trans ?_ (Below.mono (by assumption) ?_) | (simp; done) | (simp; omega) | omega))⟩
  case round =>
    obtain ⟨k, hk, hk11, rfl, hl, hbr⟩ := hrel
    by_cases hlt : k < xs.length ∧ k ≤ 10
    · obtain ⟨hlt, hk10⟩ := hlt
      obtain ⟨bx, ox, rfl, hbx, hcx⟩ := Rds.all h0 (by omega)
      have HB := hid (berV_bad (q := q) hlt)
      have HL := hid hl
      clear hl h0
      have hc := cellOf hbr
      have hf := frozOf hbr
      have hz := sizeOf hbr
      cases k with
      | zero =>
        have HV := hid (berAt_zero (q := q) hlt)
        have hx0 := hcx 0 hlt 0 _ rfl
        have hx1 := hcx 0 hlt 1 _ rfl
        have hx2 := hcx 0 hlt 2 _ rfl
        have hx3 := hcx 0 hlt 3 _ rfl
        have hx4 := hcx 0 hlt 4 _ rfl
        simp only [Nat.zero_mul, Nat.add_zero] at hx0 hx1 hx2 hx3 hx4
        clear hcx
        generalize xs[0] = x at *
        by_cases hg : berOk q x = true
        · have HG := hid hg
          have hxb := berOk_bd hg
          simp only [berOk] at hg
          go_wp2_with (fail)
          refine wp_region_w (n := 25) [] [] (FS52_6 q wr x x bx ox 0 xs.length cap w) rfl (by kernel_rfl) (fun _ _ d _ _ h => by cases d <;> exact h) ?_ ?_ ?_ ?_ ?_ ?_
          · intro iq
            match iq with
            | 0 | 1 | 2 | 3 | 4 | 5 | 6 | 7 | 8 | 9 | 10 | 11 | 12 | 13 | 14 | 15 | 16 | 17 | 18 | 19 | 20 | 21 | 22 | 23 | 24 => exact Stable.const _
            | n + 25 => exact Stable.const _
          · intro iq hi
            exact absurd hi (by simp)
          · intro iq hi
            exact absurd hi (by simp)
          · intro iq o hi hl ho vals w1 hb1 hf
            exact absurd hl (by simp)
          · intro iq o hi hl ho vals w1 hb1 hf
            match iq, hi with
            | 0, _ =>
              injection ho with ho
              subst ho
              clear hl
              simp only [fillA, List.take, List.drop, put_none, Act.put, List.setIfInBounds_toArray, List.set_cons_zero, List.set_cons_succ, Nat.reduceAdd]
              clear hf
              go_wp2_with (fail)
              exact RQ.mk rfl ⟨(by first | rfl | (simp [FS52_6]; done) | (simp [FS52_6, *]; done) | (simp [FS52_6, gotV]; done) | (simp [FS52_6, gotV]; omega)), fun h => absurd h (by decide)⟩ (Below.refl _ _)
            | 1, _ =>
              injection ho with ho
              subst ho
              clear hl
              simp only [fillA, List.take, List.drop, put_none, Act.put, List.setIfInBounds_toArray, List.set_cons_zero, List.set_cons_succ, Nat.reduceAdd]
              clear hf
              go_wp2_with (fail)
              exact RQ.mk rfl ⟨(by first | rfl | (simp [FS52_6]; done) | (simp [FS52_6, *]; done) | (simp [FS52_6, gotV]; done) | (simp [FS52_6, gotV]; omega)), fun h => absurd h (by decide)⟩ (Below.refl _ _)
            | 2, _ =>
              injection ho with ho
              subst ho
              clear hl
              simp only [fillA, List.take, List.drop, put_none, Act.put, List.setIfInBounds_toArray, List.set_cons_zero, List.set_cons_succ, Nat.reduceAdd]
              clear hf
              go_wp2_with (fail)
              exact RQ.mk rfl ⟨(by first | rfl | (simp [FS52_6]; done) | (simp [FS52_6, *]; done) | (simp [FS52_6, gotV]; done) | (simp [FS52_6, gotV]; omega)), fun h => absurd h (by decide)⟩ (Below.refl _ _)
            | 3, _ =>
              injection ho with ho
              subst ho
              clear hl
              simp only [fillA, List.take, List.drop, put_none, Act.put, List.setIfInBounds_toArray, List.set_cons_zero, List.set_cons_succ, Nat.reduceAdd]
              have f1 := hf 1 (by decide) (by kernel_rfl)
              generalize vals 1 = v1 at *
              subst f1
              have f2 := hf 2 (by decide) (by kernel_rfl)
              generalize vals 2 = v2 at *
              subst f2
              clear hf
              go_wp2_with (fail)
              exact RQ.mk rfl ⟨(by first | rfl | (simp [FS52_6]; done) | (simp [FS52_6, *]; done) | (simp [FS52_6, gotV]; done) | (simp [FS52_6, gotV]; omega)), fun h => absurd h (by decide)⟩ (Below.refl _ _)
            | 4, _ =>
              injection ho with ho
              subst ho
              clear hl
              simp only [fillA, List.take, List.drop, put_none, Act.put, List.setIfInBounds_toArray, List.set_cons_zero, List.set_cons_succ, Nat.reduceAdd]
              have f3 := hf 3 (by decide) (by kernel_rfl)
              generalize vals 3 = v3 at *
              subst f3
              clear hf
              have hc1 := cellOf hb1
              have hf1 := frozOf hb1
              have hz1 := sizeOf hb1
              try simp at hz1
              go_wp2_with (fail)
              exact RQ.mk rfl ⟨(by first | rfl | (simp [FS52_6]; done) | (simp [FS52_6, *]; done) | (simp [FS52_6, gotV]; done) | (simp [FS52_6, gotV]; omega)), fun h => absurd h (by decide)⟩ (Below.refl _ _)
            | 5, _ =>
              injection ho with ho
              subst ho
              clear hl
              simp only [fillA, List.take, List.drop, put_none, Act.put, List.setIfInBounds_toArray, List.set_cons_zero, List.set_cons_succ, Nat.reduceAdd]
              have f0 := hf 0 (by decide) (by kernel_rfl)
              generalize vals 0 = v0 at *
              subst f0
              have f4 := hf 4 (by decide) (by kernel_rfl)
              generalize vals 4 = v4 at *
              subst f4
              clear hf
              have hc1 := cellOf hb1
              have hf1 := frozOf hb1
              have hz1 := sizeOf hb1
              try simp at hz1
              go_wp2_with (first | (go_at_call 79; refine (c_spec_l16One _ _ _ _ _ _ _ (by omega)).mono ?_; rintro e w' ⟨rfl, hb⟩; have hc := cellOf hb; have hf := frozOf hb; have hz := sizeOf hb; try simp at hz))
              exact RQ.mk rfl ⟨(by first | rfl | (simp [FS52_6]; done) | (simp [FS52_6, *]; done) | (simp [FS52_6, gotV]; done) | (simp [FS52_6, gotV]; omega)), fun h => absurd h (by decide)⟩ (by (repeat' (first | exact Below.refl _ _ | assumption | refine Below.setCell ?_ ?_ _ | refine Below.drew ?_ | refine Below.alloc ?_ ?_ _ | refine Below.trans ?_ (Below.mono (by assumption) ?_) | (simp; done) | (simp; omega) | omega)))
            | 6, _ =>
              injection ho with ho
              subst ho
              clear hl
              simp only [fillA, List.take, List.drop, put_none, Act.put, List.setIfInBounds_toArray, List.set_cons_zero, List.set_cons_succ, Nat.reduceAdd]
              have f5 := hf 5 (by decide) (by kernel_rfl)
              generalize vals 5 = v5 at *
              subst f5
              clear hf
              go_wp2_with (fail)
              exact RQ.mk rfl ⟨(by first | rfl | (simp [FS52_6]; done) | (simp [FS52_6, *]; done) | (simp [FS52_6, gotV]; done) | (simp [FS52_6, gotV]; omega)), fun h => absurd h (by decide)⟩ (Below.refl _ _)
            | 7, _ =>
              injection ho with ho
              subst ho
              clear hl
              simp only [fillA, List.take, List.drop, put_none, Act.put, List.setIfInBounds_toArray, List.set_cons_zero, List.set_cons_succ, Nat.reduceAdd]
              have f6 := hf 6 (by decide) (by kernel_rfl)
              generalize vals 6 = v6 at *
              subst f6
              have f5 := hf 5 (by decide) (by kernel_rfl)
              generalize vals 5 = v5 at *
              subst f5
              clear hf
              go_wp2_with (fail)
              exact RQ.mk rfl ⟨(by first | rfl | (simp [FS52_6]; done) | (simp [FS52_6, *]; done) | (simp [FS52_6, gotV]; done) | (simp [FS52_6, gotV]; omega)), fun h => absurd h (by decide)⟩ (Below.refl _ _)
            | 8, _ =>
              injection ho with ho
              subst ho
              clear hl
              simp only [fillA, List.take, List.drop, put_none, Act.put, List.setIfInBounds_toArray, List.set_cons_zero, List.set_cons_succ, Nat.reduceAdd]
              have f7 := hf 7 (by decide) (by kernel_rfl)
              generalize vals 7 = v7 at *
              subst f7
              clear hf
              go_wp2_with (fail)
              exact RQ.mk rfl ⟨(by first | rfl | (simp [FS52_6]; done) | (simp [FS52_6, *]; done) | (simp [FS52_6, gotV]; done) | (simp [FS52_6, gotV]; omega)), fun h => absurd h (by decide)⟩ (Below.refl _ _)
            | 9, _ =>
              injection ho with ho
              subst ho
              clear hl
              simp only [fillA, List.take, List.drop, put_none, Act.put, List.setIfInBounds_toArray, List.set_cons_zero, List.set_cons_succ, Nat.reduceAdd]
              have f8 := hf 8 (by decide) (by kernel_rfl)
              generalize vals 8 = v8 at *
              subst f8
              have f7 := hf 7 (by decide) (by kernel_rfl)
              generalize vals 7 = v7 at *
              subst f7
              clear hf
              go_wp2_with (fail)
              exact RQ.mk rfl ⟨(by first | rfl | (simp [FS52_6]; done) | (simp [FS52_6, *]; done) | (simp [FS52_6, gotV]; done) | (simp [FS52_6, gotV]; omega)), fun h => absurd h (by decide)⟩ (Below.refl _ _)
            | 10, _ =>
              injection ho with ho
              subst ho
              clear hl
              simp only [fillA, List.take, List.drop, put_none, Act.put, List.setIfInBounds_toArray, List.set_cons_zero, List.set_cons_succ, Nat.reduceAdd]
              have f9 := hf 9 (by decide) (by kernel_rfl)
              generalize vals 9 = v9 at *
              subst f9
              have f7 := hf 7 (by decide) (by kernel_rfl)
              generalize vals 7 = v7 at *
              subst f7
              clear hf
              go_wp2_with (fail)
              exact RQ.mk rfl ⟨(by first | rfl | (simp [FS52_6]; done) | (simp [FS52_6, *]; done) | (simp [FS52_6, gotV]; done) | (simp [FS52_6, gotV]; omega)), fun h => absurd h (by decide)⟩ (Below.refl _ _)
            | 11, _ =>
              injection ho with ho
              subst ho
              clear hl
              simp only [fillA, List.take, List.drop, put_none, Act.put, List.setIfInBounds_toArray, List.set_cons_zero, List.set_cons_succ, Nat.reduceAdd]
              have f10 := hf 10 (by decide) (by kernel_rfl)
              generalize vals 10 = v10 at *
              subst f10
              clear hf
              go_wp2_with (fail)
              exact RQ.mk rfl ⟨(by first | rfl | (simp [FS52_6]; done) | (simp [FS52_6, *]; done) | (simp [FS52_6, gotV]; done) | (simp [FS52_6, gotV]; omega)), fun h => absurd h (by decide)⟩ (Below.refl _ _)
            | 12, _ =>
              injection ho with ho
              subst ho
              clear hl
              simp only [fillA, List.take, List.drop, put_none, Act.put, List.setIfInBounds_toArray, List.set_cons_zero, List.set_cons_succ, Nat.reduceAdd]
              have f10 := hf 10 (by decide) (by kernel_rfl)
              generalize vals 10 = v10 at *
              subst f10
              clear hf
              go_wp2_with (fail)
              exact RQ.mk rfl ⟨(by first | rfl | (simp [FS52_6]; done) | (simp [FS52_6, *]; done) | (simp [FS52_6, gotV]; done) | (simp [FS52_6, gotV]; omega)), fun h => absurd h (by decide)⟩ (Below.refl _ _)
            | 13, _ =>
              injection ho with ho
              subst ho
              clear hl
              simp only [fillA, List.take, List.drop, put_none, Act.put, List.setIfInBounds_toArray, List.set_cons_zero, List.set_cons_succ, Nat.reduceAdd]
              have f12 := hf 12 (by decide) (by kernel_rfl)
              generalize vals 12 = v12 at *
              subst f12
              have f10 := hf 10 (by decide) (by kernel_rfl)
              generalize vals 10 = v10 at *
              subst f10
              clear hf
              go_wp2_with (fail)
              exact RQ.mk rfl ⟨(by first | rfl | (simp [FS52_6]; done) | (simp [FS52_6, *]; done) | (simp [FS52_6, gotV]; done) | (simp [FS52_6, gotV]; omega)), fun h => absurd h (by decide)⟩ (Below.refl _ _)
            | 14, _ =>
              injection ho with ho
              subst ho
              clear hl
              simp only [fillA, List.take, List.drop, put_none, Act.put, List.setIfInBounds_toArray, List.set_cons_zero, List.set_cons_succ, Nat.reduceAdd]
              have f11 := hf 11 (by decide) (by kernel_rfl)
              generalize vals 11 = v11 at *
              subst f11
              have f13 := hf 13 (by decide) (by kernel_rfl)
              generalize vals 13 = v13 at *
              subst f13
              have f10 := hf 10 (by decide) (by kernel_rfl)
              generalize vals 10 = v10 at *
              subst f10
              clear hf
              go_wp2_with (fail)
              exact RQ.mk rfl ⟨(by first | rfl | (simp [FS52_6]; done) | (simp [FS52_6, *]; done) | (simp [FS52_6, gotV]; done) | (simp [FS52_6, gotV]; omega)), fun h => absurd h (by decide)⟩ (Below.refl _ _)
            | 15, _ =>
              injection ho with ho
              subst ho
              clear hl
              simp only [fillA, List.take, List.drop, put_none, Act.put, List.setIfInBounds_toArray, List.set_cons_zero, List.set_cons_succ, Nat.reduceAdd]
              have f14 := hf 14 (by decide) (by kernel_rfl)
              generalize vals 14 = v14 at *
              subst f14
              have f10 := hf 10 (by decide) (by kernel_rfl)
              generalize vals 10 = v10 at *
              subst f10
              clear hf
              go_wp2_with (fail)
              exact RQ.mk rfl ⟨(by first | rfl | (simp [FS52_6]; done) | (simp [FS52_6, *]; done) | (simp [FS52_6, gotV]; done) | (simp [FS52_6, gotV]; omega)), fun h => absurd h (by decide)⟩ (Below.refl _ _)
            | 16, _ =>
              injection ho with ho
              subst ho
              clear hl
              simp only [fillA, List.take, List.drop, put_none, Act.put, List.setIfInBounds_toArray, List.set_cons_zero, List.set_cons_succ, Nat.reduceAdd]
              have f15 := hf 15 (by decide) (by kernel_rfl)
              generalize vals 15 = v15 at *
              subst f15
              have f10 := hf 10 (by decide) (by kernel_rfl)
              generalize vals 10 = v10 at *
              subst f10
              clear hf
              go_wp2_with (fail)
              exact RQ.mk rfl ⟨(by first | rfl | (simp [FS52_6]; done) | (simp [FS52_6, *]; done) | (simp [FS52_6, gotV]; done) | (simp [FS52_6, gotV]; omega)), fun h => absurd h (by decide)⟩ (Below.refl _ _)
            | 17, _ =>
              injection ho with ho
              subst ho
              clear hl
              simp only [fillA, List.take, List.drop, put_none, Act.put, List.setIfInBounds_toArray, List.set_cons_zero, List.set_cons_succ, Nat.reduceAdd]
              have f10 := hf 10 (by decide) (by kernel_rfl)
              generalize vals 10 = v10 at *
              subst f10
              clear hf
              go_wp2_with (fail)
              exact RQ.mk rfl ⟨(by first | rfl | (simp [FS52_6]; done) | (simp [FS52_6, *]; done) | (simp [FS52_6, gotV]; done) | (simp [FS52_6, gotV]; omega)), fun h => absurd h (by decide)⟩ (Below.refl _ _)
            | 18, _ =>
              injection ho with ho
              subst ho
              clear hl
              simp only [fillA, List.take, List.drop, put_none, Act.put, List.setIfInBounds_toArray, List.set_cons_zero, List.set_cons_succ, Nat.reduceAdd]
              have f10 := hf 10 (by decide) (by kernel_rfl)
              generalize vals 10 = v10 at *
              subst f10
              clear hf
              go_wp2_with (fail)
              exact RQ.mk rfl ⟨(by first | rfl | (simp [FS52_6]; done) | (simp [FS52_6, *]; done) | (simp [FS52_6, gotV]; done) | (simp [FS52_6, gotV]; omega)), fun h => absurd h (by decide)⟩ (Below.refl _ _)
            | 19, _ =>
              injection ho with ho
              subst ho
              clear hl
              simp only [fillA, List.take, List.drop, put_none, Act.put, List.setIfInBounds_toArray, List.set_cons_zero, List.set_cons_succ, Nat.reduceAdd]
              have f17 := hf 17 (by decide) (by kernel_rfl)
              generalize vals 17 = v17 at *
              subst f17
              have f18 := hf 18 (by decide) (by kernel_rfl)
              generalize vals 18 = v18 at *
              subst f18
              have f10 := hf 10 (by decide) (by kernel_rfl)
              generalize vals 10 = v10 at *
              subst f10
              clear hf
              go_wp2_with (fail)
              exact RQ.mk rfl ⟨(by first | rfl | (simp [FS52_6]; done) | (simp [FS52_6, *]; done) | (simp [FS52_6, gotV]; done) | (simp [FS52_6, gotV]; omega)), fun h => absurd h (by decide)⟩ (Below.refl _ _)
            | 20, _ =>
              injection ho with ho
              subst ho
              clear hl
              simp only [fillA, List.take, List.drop, put_none, Act.put, List.setIfInBounds_toArray, List.set_cons_zero, List.set_cons_succ, Nat.reduceAdd]
              have f19 := hf 19 (by decide) (by kernel_rfl)
              generalize vals 19 = v19 at *
              subst f19
              have f10 := hf 10 (by decide) (by kernel_rfl)
              generalize vals 10 = v10 at *
              subst f10
              clear hf
              go_wp2_with (fail)
              exact RQ.mk rfl ⟨(by first | rfl | (simp [FS52_6]; done) | (simp [FS52_6, *]; done) | (simp [FS52_6, gotV]; done) | (simp [FS52_6, gotV]; omega)), fun h => absurd h (by decide)⟩ (Below.refl _ _)
            | 21, _ =>
              injection ho with ho
              subst ho
              clear hl
              simp only [fillA, List.take, List.drop, put_none, Act.put, List.setIfInBounds_toArray, List.set_cons_zero, List.set_cons_succ, Nat.reduceAdd]
              have f20 := hf 20 (by decide) (by kernel_rfl)
              generalize vals 20 = v20 at *
              subst f20
              have f10 := hf 10 (by decide) (by kernel_rfl)
              generalize vals 10 = v10 at *
              subst f10
              clear hf
              go_wp2_with (fail)
              exact RQ.mk rfl ⟨(by first | rfl | (simp [FS52_6]; done) | (simp [FS52_6, *]; done) | (simp [FS52_6, gotV]; done) | (simp [FS52_6, gotV]; omega)), fun h => absurd h (by decide)⟩ (Below.refl _ _)
            | 22, _ =>
              injection ho with ho
              subst ho
              clear hl
              simp only [fillA, List.take, List.drop, put_none, Act.put, List.setIfInBounds_toArray, List.set_cons_zero, List.set_cons_succ, Nat.reduceAdd]
              have f16 := hf 16 (by decide) (by kernel_rfl)
              generalize vals 16 = v16 at *
              subst f16
              have f21 := hf 21 (by decide) (by kernel_rfl)
              generalize vals 21 = v21 at *
              subst f21
              have f10 := hf 10 (by decide) (by kernel_rfl)
              generalize vals 10 = v10 at *
              subst f10
              clear hf
              go_wp2_with (fail)
              exact RQ.mk rfl ⟨(by first | rfl | (simp [FS52_6]; done) | (simp [FS52_6, *]; done) | (simp [FS52_6, gotV]; done) | (simp [FS52_6, gotV]; omega)), fun h => absurd h (by decide)⟩ (Below.refl _ _)
            | 23, _ =>
              injection ho with ho
              subst ho
              clear hl
              simp only [fillA, List.take, List.drop, put_none, Act.put, List.setIfInBounds_toArray, List.set_cons_zero, List.set_cons_succ, Nat.reduceAdd]
              have f10 := hf 10 (by decide) (by kernel_rfl)
              generalize vals 10 = v10 at *
              subst f10
              have f22 := hf 22 (by decide) (by kernel_rfl)
              generalize vals 22 = v22 at *
              subst f22
              have f7 := hf 7 (by decide) (by kernel_rfl)
              generalize vals 7 = v7 at *
              subst f7
              clear hf
              go_wp2_with (fail)
              exact RQ.mk rfl ⟨(by first | rfl | (simp [FS52_6]; done) | (simp [FS52_6, *]; done) | (simp [FS52_6, gotV]; done) | (simp [FS52_6, gotV]; omega)), fun h => absurd h (by decide)⟩ (Below.refl _ _)
            | 24, _ =>
              injection ho with ho
              subst ho
              clear hl
              simp only [fillA, List.take, List.drop, put_none, Act.put, List.setIfInBounds_toArray, List.set_cons_zero, List.set_cons_succ, Nat.reduceAdd]
              have f7 := hf 7 (by decide) (by kernel_rfl)
              generalize vals 7 = v7 at *
              subst f7
              have f23 := hf 23 (by decide) (by kernel_rfl)
              generalize vals 23 = v23 at *
              subst f23
              clear hf
              go_wp2_with (fail)
              exact RQ.mk rfl ⟨(by first | rfl | (simp [FS52_6]; done) | (simp [FS52_6, *]; done) | (simp [FS52_6, gotV]; done) | (simp [FS52_6, gotV]; omega)), fun h => absurd h (by decide)⟩ (Below.refl _ _)
            | m + 25, h => exact absurd h (by omega)
          · intro vals w1 hb1 hf hd
            simp only [fillA, List.take, List.drop, put_none, Act.put, List.setIfInBounds_toArray, List.set_cons_zero, List.set_cons_succ, Nat.reduceAdd]
            clear hd
            have f0 := hf 0 (by decide)
            generalize vals 0 = v0 at *
            subst f0
            have f1 := hf 1 (by decide)
            generalize vals 1 = v1 at *
            subst f1
            have f2 := hf 2 (by decide)
            generalize vals 2 = v2 at *
            subst f2
            have f3 := hf 3 (by decide)
            generalize vals 3 = v3 at *
            subst f3
            have f4 := hf 4 (by decide)
            generalize vals 4 = v4 at *
            subst f4
            have f5 := hf 5 (by decide)
            generalize vals 5 = v5 at *
            subst f5
            have f6 := hf 6 (by decide)
            generalize vals 6 = v6 at *
            subst f6
            have f7 := hf 7 (by decide)
            generalize vals 7 = v7 at *
            subst f7
            have f8 := hf 8 (by decide)
            generalize vals 8 = v8 at *
            subst f8
            have f9 := hf 9 (by decide)
            generalize vals 9 = v9 at *
            subst f9
            have f10 := hf 10 (by decide)
            generalize vals 10 = v10 at *
            subst f10
            have f11 := hf 11 (by decide)
            generalize vals 11 = v11 at *
            subst f11
            have f12 := hf 12 (by decide)
            generalize vals 12 = v12 at *
            subst f12
            have f13 := hf 13 (by decide)
            generalize vals 13 = v13 at *
            subst f13
            have f14 := hf 14 (by decide)
            generalize vals 14 = v14 at *
            subst f14
            have f15 := hf 15 (by decide)
            generalize vals 15 = v15 at *
            subst f15
            have f16 := hf 16 (by decide)
            generalize vals 16 = v16 at *
            subst f16
            have f17 := hf 17 (by decide)
            generalize vals 17 = v17 at *
            subst f17
            have f18 := hf 18 (by decide)
            generalize vals 18 = v18 at *
            subst f18
            have f19 := hf 19 (by decide)
            generalize vals 19 = v19 at *
            subst f19
            have f20 := hf 20 (by decide)
            generalize vals 20 = v20 at *
            subst f20
            have f21 := hf 21 (by decide)
            generalize vals 21 = v21 at *
            subst f21
            have f22 := hf 22 (by decide)
            generalize vals 22 = v22 at *
            subst f22
            have f23 := hf 23 (by decide)
            generalize vals 23 = v23 at *
            subst f23
            have f24 := hf 24 (by decide)
            generalize vals 24 = v24 at *
            subst f24
            clear hf
            have hc1 := cellOf hb1
            have hf1 := frozOf hb1
            have hz1 := sizeOf hb1
            try simp at hz1
            go_wp2_with (fail)
            go_loopw [6] (fun i wv => i = .int .i64 0 ∧ Below w.heap.size w wv) (fun _ _ => 0)
            case atStart => exact ⟨rfl, by (repeat' (first | exact Below.refl _ _ | assumption | refine Below.setCell ?_ ?_ _ | refine Below.drew ?_ | refine Below.alloc ?_ ?_ _ | refine Below.trans ?_ (Below.mono (by assumption) ?_) | (simp; done) | (simp; omega) | omega))⟩
            case round =>
              obtain ⟨rfl, hbv⟩ := hrel
              clear hc hf hz
              have hc := cellOf hbv
              have hf := frozOf hbv
              have hz := sizeOf hbv
              go_wp2_with (fail)
              go_roundw
              case rel =>
                refine ⟨1, by omega, by omega, by go_num, fun j hj => ?_, by (repeat' (first | exact Below.refl _ _ | assumption | refine Below.setCell ?_ ?_ _ | refine Below.drew ?_ | refine Below.alloc ?_ ?_ _ | refine Below.trans ?_ (Below.mono (by assumption) ?_) | (simp; done) | (simp; omega) | omega))⟩
                obtain rfl : j = 0 := by omega
                rw [HV.out, HG.out]
              case measure => simp [intOf]; omega
        · have HG : Hid (berOk q x = false) := by show _ = _; simpa using hg
          clear hg
          have hg := HG.out
          simp only [berOk] at hg
          go_wp2_with (fail)
          refine wp_region_w (n := 25) [] [] (FS52_6_9 q wr x x bx ox 0 xs.length cap w) rfl (by kernel_rfl) (fun _ _ d _ _ h => by cases d <;> exact h) ?_ ?_ ?_ ?_ ?_ ?_
          · intro iq
            match iq with
            | 0 | 1 | 2 | 3 | 4 | 5 | 6 | 7 | 8 | 9 | 10 | 11 | 12 | 13 | 14 | 15 | 16 | 17 | 18 | 19 | 20 | 21 | 22 | 23 | 24 => exact Stable.const _
            | n + 25 => exact Stable.const _
          · intro iq hi
            exact absurd hi (by simp)
          · intro iq hi
            exact absurd hi (by simp)
          · intro iq o hi hl ho vals w1 hb1 hf
            exact absurd hl (by simp)
          · intro iq o hi hl ho vals w1 hb1 hf
            match iq, hi with
            | 0, _ =>
              injection ho with ho
              subst ho
              clear hl
              simp only [fillA, List.take, List.drop, put_none, Act.put, List.setIfInBounds_toArray, List.set_cons_zero, List.set_cons_succ, Nat.reduceAdd]
              clear hf
              go_wp2_with (fail)
              exact RQ.mk rfl ⟨(by first | rfl | (simp [FS52_6_9]; done) | (simp [FS52_6_9, *]; done) | (simp [FS52_6_9, gotV]; done) | (simp [FS52_6_9, gotV]; omega)), fun h => absurd h (by decide)⟩ (Below.refl _ _)
            | 1, _ =>
              injection ho with ho
              subst ho
              clear hl
              simp only [fillA, List.take, List.drop, put_none, Act.put, List.setIfInBounds_toArray, List.set_cons_zero, List.set_cons_succ, Nat.reduceAdd]
              clear hf
              go_wp2_with (fail)
              exact RQ.mk rfl ⟨(by first | rfl | (simp [FS52_6_9]; done) | (simp [FS52_6_9, *]; done) | (simp [FS52_6_9, gotV]; done) | (simp [FS52_6_9, gotV]; omega)), fun h => absurd h (by decide)⟩ (Below.refl _ _)
            | 2, _ =>
              injection ho with ho
              subst ho
              clear hl
              simp only [fillA, List.take, List.drop, put_none, Act.put, List.setIfInBounds_toArray, List.set_cons_zero, List.set_cons_succ, Nat.reduceAdd]
              clear hf
              go_wp2_with (fail)
              exact RQ.mk rfl ⟨(by first | rfl | (simp [FS52_6_9]; done) | (simp [FS52_6_9, *]; done) | (simp [FS52_6_9, gotV]; done) | (simp [FS52_6_9, gotV]; omega)), fun h => absurd h (by decide)⟩ (Below.refl _ _)
            | 3, _ =>
              injection ho with ho
              subst ho
              clear hl
              simp only [fillA, List.take, List.drop, put_none, Act.put, List.setIfInBounds_toArray, List.set_cons_zero, List.set_cons_succ, Nat.reduceAdd]
              have f1 := hf 1 (by decide) (by kernel_rfl)
              generalize vals 1 = v1 at *
              subst f1
              have f2 := hf 2 (by decide) (by kernel_rfl)
              generalize vals 2 = v2 at *
              subst f2
              clear hf
              go_wp2_with (fail)
              exact RQ.mk rfl ⟨(by first | rfl | (simp [FS52_6_9]; done) | (simp [FS52_6_9, *]; done) | (simp [FS52_6_9, gotV]; done) | (simp [FS52_6_9, gotV]; omega)), fun h => absurd h (by decide)⟩ (Below.refl _ _)
            | 4, _ =>
              injection ho with ho
              subst ho
              clear hl
              simp only [fillA, List.take, List.drop, put_none, Act.put, List.setIfInBounds_toArray, List.set_cons_zero, List.set_cons_succ, Nat.reduceAdd]
              have f3 := hf 3 (by decide) (by kernel_rfl)
              generalize vals 3 = v3 at *
              subst f3
              clear hf
              have hc1 := cellOf hb1
              have hf1 := frozOf hb1
              have hz1 := sizeOf hb1
              try simp at hz1
              go_wp2_with (fail)
              exact RQ.mk rfl ⟨(by first | rfl | (simp [FS52_6_9]; done) | (simp [FS52_6_9, *]; done) | (simp [FS52_6_9, gotV]; done) | (simp [FS52_6_9, gotV]; omega)), fun h => absurd h (by decide)⟩ (Below.refl _ _)
            | 5, _ =>
              injection ho with ho
              subst ho
              clear hl
              simp only [fillA, List.take, List.drop, put_none, Act.put, List.setIfInBounds_toArray, List.set_cons_zero, List.set_cons_succ, Nat.reduceAdd]
              have f0 := hf 0 (by decide) (by kernel_rfl)
              generalize vals 0 = v0 at *
              subst f0
              have f4 := hf 4 (by decide) (by kernel_rfl)
              generalize vals 4 = v4 at *
              subst f4
              clear hf
              have hc1 := cellOf hb1
              have hf1 := frozOf hb1
              have hz1 := sizeOf hb1
              try simp at hz1
              go_wp2_with (first | (go_at_call 79; refine (c_spec_l16One _ _ _ _ _ _ _ (by omega)).mono ?_; rintro e w' ⟨rfl, hb⟩; have hc := cellOf hb; have hf := frozOf hb; have hz := sizeOf hb; try simp at hz))
              exact RQ.mk rfl ⟨(by first | rfl | (simp [FS52_6_9]; done) | (simp [FS52_6_9, *]; done) | (simp [FS52_6_9, gotV]; done) | (simp [FS52_6_9, gotV]; omega)), fun h => absurd h (by decide)⟩ (by (repeat' (first | exact Below.refl _ _ | assumption | refine Below.setCell ?_ ?_ _ | refine Below.drew ?_ | refine Below.alloc ?_ ?_ _ | refine Below.trans ?_ (Below.mono (by assumption) ?_) | (simp; done) | (simp; omega) | omega)))
            | 6, _ =>
              injection ho with ho
              subst ho
              clear hl
              simp only [fillA, List.take, List.drop, put_none, Act.put, List.setIfInBounds_toArray, List.set_cons_zero, List.set_cons_succ, Nat.reduceAdd]
              have f5 := hf 5 (by decide) (by kernel_rfl)
              generalize vals 5 = v5 at *
              subst f5
              clear hf
              go_wp2_with (fail)
              exact RQ.mk rfl ⟨(by first | rfl | (simp [FS52_6_9]; done) | (simp [FS52_6_9, *]; done) | (simp [FS52_6_9, gotV]; done) | (simp [FS52_6_9, gotV]; omega)), fun h => absurd h (by decide)⟩ (Below.refl _ _)
            | 7, _ =>
              injection ho with ho
              subst ho
              clear hl
              simp only [fillA, List.take, List.drop, put_none, Act.put, List.setIfInBounds_toArray, List.set_cons_zero, List.set_cons_succ, Nat.reduceAdd]
              have f6 := hf 6 (by decide) (by kernel_rfl)
              generalize vals 6 = v6 at *
              subst f6
              have f5 := hf 5 (by decide) (by kernel_rfl)
              generalize vals 5 = v5 at *
              subst f5
              clear hf
              go_wp2_with (fail)
              exact RQ.mk rfl ⟨(by first | rfl | (simp [FS52_6_9]; done) | (simp [FS52_6_9, *]; done) | (simp [FS52_6_9, gotV]; done) | (simp [FS52_6_9, gotV]; omega)), fun h => absurd h (by decide)⟩ (Below.refl _ _)
            | 8, _ =>
              injection ho with ho
              subst ho
              clear hl
              simp only [fillA, List.take, List.drop, put_none, Act.put, List.setIfInBounds_toArray, List.set_cons_zero, List.set_cons_succ, Nat.reduceAdd]
              have f7 := hf 7 (by decide) (by kernel_rfl)
              generalize vals 7 = v7 at *
              subst f7
              clear hf
              go_wp2_with (fail)
              exact RQ.mk rfl ⟨(by first | rfl | (simp [FS52_6_9]; done) | (simp [FS52_6_9, *]; done) | (simp [FS52_6_9, gotV]; done) | (simp [FS52_6_9, gotV]; omega)), fun h => absurd h (by decide)⟩ (Below.refl _ _)
            | 9, _ =>
              injection ho with ho
              subst ho
              clear hl
              simp only [fillA, List.take, List.drop, put_none, Act.put, List.setIfInBounds_toArray, List.set_cons_zero, List.set_cons_succ, Nat.reduceAdd]
              have f8 := hf 8 (by decide) (by kernel_rfl)
              generalize vals 8 = v8 at *
              subst f8
              have f7 := hf 7 (by decide) (by kernel_rfl)
              generalize vals 7 = v7 at *
              subst f7
              clear hf
              go_wp2_with (fail)
              exact RQ.mk rfl ⟨(by first | rfl | (simp [FS52_6_9]; done) | (simp [FS52_6_9, *]; done) | (simp [FS52_6_9, gotV]; done) | (simp [FS52_6_9, gotV]; omega)), fun h => absurd h (by decide)⟩ (Below.refl _ _)
            | 10, _ =>
              injection ho with ho
              subst ho
              clear hl
              simp only [fillA, List.take, List.drop, put_none, Act.put, List.setIfInBounds_toArray, List.set_cons_zero, List.set_cons_succ, Nat.reduceAdd]
              have f9 := hf 9 (by decide) (by kernel_rfl)
              generalize vals 9 = v9 at *
              subst f9
              have f7 := hf 7 (by decide) (by kernel_rfl)
              generalize vals 7 = v7 at *
              subst f7
              clear hf
              go_wp2_with (fail)
              exact RQ.mk rfl ⟨(by first | rfl | (simp [FS52_6_9]; done) | (simp [FS52_6_9, *]; done) | (simp [FS52_6_9, gotV]; done) | (simp [FS52_6_9, gotV]; omega)), fun h => absurd h (by decide)⟩ (Below.refl _ _)
            | 11, _ =>
              injection ho with ho
              subst ho
              clear hl
              simp only [fillA, List.take, List.drop, put_none, Act.put, List.setIfInBounds_toArray, List.set_cons_zero, List.set_cons_succ, Nat.reduceAdd]
              have f10 := hf 10 (by decide) (by kernel_rfl)
              generalize vals 10 = v10 at *
              subst f10
              clear hf
              go_wp2_with (fail)
              exact RQ.mk rfl ⟨(by first | rfl | (simp [FS52_6_9]; done) | (simp [FS52_6_9, *]; done) | (simp [FS52_6_9, gotV]; done) | (simp [FS52_6_9, gotV]; omega)), fun h => absurd h (by decide)⟩ (Below.refl _ _)
            | 12, _ =>
              injection ho with ho
              subst ho
              clear hl
              simp only [fillA, List.take, List.drop, put_none, Act.put, List.setIfInBounds_toArray, List.set_cons_zero, List.set_cons_succ, Nat.reduceAdd]
              have f10 := hf 10 (by decide) (by kernel_rfl)
              generalize vals 10 = v10 at *
              subst f10
              clear hf
              go_wp2_with (fail)
              exact RQ.mk rfl ⟨(by first | rfl | (simp [FS52_6_9]; done) | (simp [FS52_6_9, *]; done) | (simp [FS52_6_9, gotV]; done) | (simp [FS52_6_9, gotV]; omega)), fun h => absurd h (by decide)⟩ (Below.refl _ _)
            | 13, _ =>
              injection ho with ho
              subst ho
              clear hl
              simp only [fillA, List.take, List.drop, put_none, Act.put, List.setIfInBounds_toArray, List.set_cons_zero, List.set_cons_succ, Nat.reduceAdd]
              have f12 := hf 12 (by decide) (by kernel_rfl)
              generalize vals 12 = v12 at *
              subst f12
              have f10 := hf 10 (by decide) (by kernel_rfl)
              generalize vals 10 = v10 at *
              subst f10
              clear hf
              go_wp2_with (fail)
              exact RQ.mk rfl ⟨(by first | rfl | (simp [FS52_6_9]; done) | (simp [FS52_6_9, *]; done) | (simp [FS52_6_9, gotV]; done) | (simp [FS52_6_9, gotV]; omega)), fun h => absurd h (by decide)⟩ (Below.refl _ _)
            | 14, _ =>
              injection ho with ho
              subst ho
              clear hl
              simp only [fillA, List.take, List.drop, put_none, Act.put, List.setIfInBounds_toArray, List.set_cons_zero, List.set_cons_succ, Nat.reduceAdd]
              have f11 := hf 11 (by decide) (by kernel_rfl)
              generalize vals 11 = v11 at *
              subst f11
              have f13 := hf 13 (by decide) (by kernel_rfl)
              generalize vals 13 = v13 at *
              subst f13
              have f10 := hf 10 (by decide) (by kernel_rfl)
              generalize vals 10 = v10 at *
              subst f10
              clear hf
              go_wp2_with (fail)
              exact RQ.mk rfl ⟨(by first | rfl | (simp [FS52_6_9]; done) | (simp [FS52_6_9, *]; done) | (simp [FS52_6_9, gotV]; done) | (simp [FS52_6_9, gotV]; omega)), fun h => absurd h (by decide)⟩ (Below.refl _ _)
            | 15, _ =>
              injection ho with ho
              subst ho
              clear hl
              simp only [fillA, List.take, List.drop, put_none, Act.put, List.setIfInBounds_toArray, List.set_cons_zero, List.set_cons_succ, Nat.reduceAdd]
              have f14 := hf 14 (by decide) (by kernel_rfl)
              generalize vals 14 = v14 at *
              subst f14
              have f10 := hf 10 (by decide) (by kernel_rfl)
              generalize vals 10 = v10 at *
              subst f10
              clear hf
              go_wp2_with (fail)
              exact RQ.mk rfl ⟨(by first | rfl | (simp [FS52_6_9]; done) | (simp [FS52_6_9, *]; done) | (simp [FS52_6_9, gotV]; done) | (simp [FS52_6_9, gotV]; omega)), fun h => absurd h (by decide)⟩ (Below.refl _ _)
            | 16, _ =>
              injection ho with ho
              subst ho
              clear hl
              simp only [fillA, List.take, List.drop, put_none, Act.put, List.setIfInBounds_toArray, List.set_cons_zero, List.set_cons_succ, Nat.reduceAdd]
              have f15 := hf 15 (by decide) (by kernel_rfl)
              generalize vals 15 = v15 at *
              subst f15
              have f10 := hf 10 (by decide) (by kernel_rfl)
              generalize vals 10 = v10 at *
              subst f10
              clear hf
              go_wp2_with (fail)
              exact RQ.mk rfl ⟨(by first | rfl | (simp [FS52_6_9]; done) | (simp [FS52_6_9, *]; done) | (simp [FS52_6_9, gotV]; done) | (simp [FS52_6_9, gotV]; omega)), fun h => absurd h (by decide)⟩ (Below.refl _ _)
            | 17, _ =>
              injection ho with ho
              subst ho
              clear hl
              simp only [fillA, List.take, List.drop, put_none, Act.put, List.setIfInBounds_toArray, List.set_cons_zero, List.set_cons_succ, Nat.reduceAdd]
              have f10 := hf 10 (by decide) (by kernel_rfl)
              generalize vals 10 = v10 at *
              subst f10
              clear hf
              go_wp2_with (fail)
              exact RQ.mk rfl ⟨(by first | rfl | (simp [FS52_6_9]; done) | (simp [FS52_6_9, *]; done) | (simp [FS52_6_9, gotV]; done) | (simp [FS52_6_9, gotV]; omega)), fun h => absurd h (by decide)⟩ (Below.refl _ _)
            | 18, _ =>
              injection ho with ho
              subst ho
              clear hl
              simp only [fillA, List.take, List.drop, put_none, Act.put, List.setIfInBounds_toArray, List.set_cons_zero, List.set_cons_succ, Nat.reduceAdd]
              have f10 := hf 10 (by decide) (by kernel_rfl)
              generalize vals 10 = v10 at *
              subst f10
              clear hf
              go_wp2_with (fail)
              exact RQ.mk rfl ⟨(by first | rfl | (simp [FS52_6_9]; done) | (simp [FS52_6_9, *]; done) | (simp [FS52_6_9, gotV]; done) | (simp [FS52_6_9, gotV]; omega)), fun h => absurd h (by decide)⟩ (Below.refl _ _)
            | 19, _ =>
              injection ho with ho
              subst ho
              clear hl
              simp only [fillA, List.take, List.drop, put_none, Act.put, List.setIfInBounds_toArray, List.set_cons_zero, List.set_cons_succ, Nat.reduceAdd]
              have f17 := hf 17 (by decide) (by kernel_rfl)
              generalize vals 17 = v17 at *
              subst f17
              have f18 := hf 18 (by decide) (by kernel_rfl)
              generalize vals 18 = v18 at *
              subst f18
              have f10 := hf 10 (by decide) (by kernel_rfl)
              generalize vals 10 = v10 at *
              subst f10
              clear hf
              go_wp2_with (fail)
              exact RQ.mk rfl ⟨(by first | rfl | (simp [FS52_6_9]; done) | (simp [FS52_6_9, *]; done) | (simp [FS52_6_9, gotV]; done) | (simp [FS52_6_9, gotV]; omega)), fun h => absurd h (by decide)⟩ (Below.refl _ _)
            | 20, _ =>
              injection ho with ho
              subst ho
              clear hl
              simp only [fillA, List.take, List.drop, put_none, Act.put, List.setIfInBounds_toArray, List.set_cons_zero, List.set_cons_succ, Nat.reduceAdd]
              have f19 := hf 19 (by decide) (by kernel_rfl)
              generalize vals 19 = v19 at *
              subst f19
              have f10 := hf 10 (by decide) (by kernel_rfl)
              generalize vals 10 = v10 at *
              subst f10
              clear hf
              go_wp2_with (fail)
              exact RQ.mk rfl ⟨(by first | rfl | (simp [FS52_6_9]; done) | (simp [FS52_6_9, *]; done) | (simp [FS52_6_9, gotV]; done) | (simp [FS52_6_9, gotV]; omega)), fun h => absurd h (by decide)⟩ (Below.refl _ _)
            | 21, _ =>
              injection ho with ho
              subst ho
              clear hl
              simp only [fillA, List.take, List.drop, put_none, Act.put, List.setIfInBounds_toArray, List.set_cons_zero, List.set_cons_succ, Nat.reduceAdd]
              have f20 := hf 20 (by decide) (by kernel_rfl)
              generalize vals 20 = v20 at *
              subst f20
              have f10 := hf 10 (by decide) (by kernel_rfl)
              generalize vals 10 = v10 at *
              subst f10
              clear hf
              go_wp2_with (fail)
              exact RQ.mk rfl ⟨(by first | rfl | (simp [FS52_6_9]; done) | (simp [FS52_6_9, *]; done) | (simp [FS52_6_9, gotV]; done) | (simp [FS52_6_9, gotV]; omega)), fun h => absurd h (by decide)⟩ (Below.refl _ _)
            | 22, _ =>
              injection ho with ho
              subst ho
              clear hl
              simp only [fillA, List.take, List.drop, put_none, Act.put, List.setIfInBounds_toArray, List.set_cons_zero, List.set_cons_succ, Nat.reduceAdd]
              have f16 := hf 16 (by decide) (by kernel_rfl)
              generalize vals 16 = v16 at *
              subst f16
              have f21 := hf 21 (by decide) (by kernel_rfl)
              generalize vals 21 = v21 at *
              subst f21
              have f10 := hf 10 (by decide) (by kernel_rfl)
              generalize vals 10 = v10 at *
              subst f10
              clear hf
              go_wp2_with (fail)
              exact RQ.mk rfl ⟨(by first | rfl | (simp [FS52_6_9]; done) | (simp [FS52_6_9, *]; done) | (simp [FS52_6_9, gotV]; done) | (simp [FS52_6_9, gotV]; omega)), fun h => absurd h (by decide)⟩ (Below.refl _ _)
            | 23, _ =>
              injection ho with ho
              subst ho
              clear hl
              simp only [fillA, List.take, List.drop, put_none, Act.put, List.setIfInBounds_toArray, List.set_cons_zero, List.set_cons_succ, Nat.reduceAdd]
              have f10 := hf 10 (by decide) (by kernel_rfl)
              generalize vals 10 = v10 at *
              subst f10
              have f22 := hf 22 (by decide) (by kernel_rfl)
              generalize vals 22 = v22 at *
              subst f22
              have f7 := hf 7 (by decide) (by kernel_rfl)
              generalize vals 7 = v7 at *
              subst f7
              clear hf
              go_wp2_with (fail)
              exact RQ.mk rfl ⟨(by first | rfl | (simp [FS52_6_9]; done) | (simp [FS52_6_9, *]; done) | (simp [FS52_6_9, gotV]; done) | (simp [FS52_6_9, gotV]; omega)), fun h => absurd h (by decide)⟩ (Below.refl _ _)
            | 24, _ =>
              injection ho with ho
              subst ho
              clear hl
              simp only [fillA, List.take, List.drop, put_none, Act.put, List.setIfInBounds_toArray, List.set_cons_zero, List.set_cons_succ, Nat.reduceAdd]
              have f7 := hf 7 (by decide) (by kernel_rfl)
              generalize vals 7 = v7 at *
              subst f7
              have f23 := hf 23 (by decide) (by kernel_rfl)
              generalize vals 23 = v23 at *
              subst f23
              clear hf
              go_wp2_with (fail)
              exact RQ.mk rfl ⟨(by first | rfl | (simp [FS52_6_9]; done) | (simp [FS52_6_9, *]; done) | (simp [FS52_6_9, gotV]; done) | (simp [FS52_6_9, gotV]; omega)), fun h => absurd h (by decide)⟩ (Below.refl _ _)
            | m + 25, h => exact absurd h (by omega)
          · intro vals w1 hb1 hf hd
            simp only [fillA, List.take, List.drop, put_none, Act.put, List.setIfInBounds_toArray, List.set_cons_zero, List.set_cons_succ, Nat.reduceAdd]
            clear hd
            have f0 := hf 0 (by decide)
            generalize vals 0 = v0 at *
            subst f0
            have f1 := hf 1 (by decide)
            generalize vals 1 = v1 at *
            subst f1
            have f2 := hf 2 (by decide)
            generalize vals 2 = v2 at *
            subst f2
            have f3 := hf 3 (by decide)
            generalize vals 3 = v3 at *
            subst f3
            have f4 := hf 4 (by decide)
            generalize vals 4 = v4 at *
            subst f4
            have f5 := hf 5 (by decide)
            generalize vals 5 = v5 at *
            subst f5
            have f6 := hf 6 (by decide)
            generalize vals 6 = v6 at *
            subst f6
            have f7 := hf 7 (by decide)
            generalize vals 7 = v7 at *
            subst f7
            have f8 := hf 8 (by decide)
            generalize vals 8 = v8 at *
            subst f8
            have f9 := hf 9 (by decide)
            generalize vals 9 = v9 at *
            subst f9
            have f10 := hf 10 (by decide)
            generalize vals 10 = v10 at *
            subst f10
            have f11 := hf 11 (by decide)
            generalize vals 11 = v11 at *
            subst f11
            have f12 := hf 12 (by decide)
            generalize vals 12 = v12 at *
            subst f12
            have f13 := hf 13 (by decide)
            generalize vals 13 = v13 at *
            subst f13
            have f14 := hf 14 (by decide)
            generalize vals 14 = v14 at *
            subst f14
            have f15 := hf 15 (by decide)
            generalize vals 15 = v15 at *
            subst f15
            have f16 := hf 16 (by decide)
            generalize vals 16 = v16 at *
            subst f16
            have f17 := hf 17 (by decide)
            generalize vals 17 = v17 at *
            subst f17
            have f18 := hf 18 (by decide)
            generalize vals 18 = v18 at *
            subst f18
            have f19 := hf 19 (by decide)
            generalize vals 19 = v19 at *
            subst f19
            have f20 := hf 20 (by decide)
            generalize vals 20 = v20 at *
            subst f20
            have f21 := hf 21 (by decide)
            generalize vals 21 = v21 at *
            subst f21
            have f22 := hf 22 (by decide)
            generalize vals 22 = v22 at *
            subst f22
            have f23 := hf 23 (by decide)
            generalize vals 23 = v23 at *
            subst f23
            have f24 := hf 24 (by decide)
            generalize vals 24 = v24 at *
            subst f24
            clear hf
            have hc1 := cellOf hb1
            have hf1 := frozOf hb1
            have hz1 := sizeOf hb1
            try simp at hz1
            go_wp2_with (fail)
            go_ret
            exact ⟨ret_bool (by rw [HB.out (by rw [HV.out, HG.out])]), by (repeat' (first | exact Below.refl _ _ | assumption | refine Below.setCell ?_ ?_ _ | refine Below.drew ?_ | refine Below.alloc ?_ ?_ _ | refine Below.trans ?_ (Below.mono (by assumption) ?_) | (simp; done) | (simp; omega) | omega))⟩
      | succ k =>
        have HV := hid (berAt_succ (q := q) k hlt)
        have hlt' : k < xs.length := by omega
        have hx0 := hcx (k + 1) hlt 0 _ rfl
        have hx1 := hcx (k + 1) hlt 1 _ rfl
        have hx2 := hcx (k + 1) hlt 2 _ rfl
        have hx3 := hcx (k + 1) hlt 3 _ rfl
        have hx4 := hcx (k + 1) hlt 4 _ rfl
        have hy0 := hcx k hlt' 0 _ rfl
        simp only [Nat.add_zero] at hx0 hy0
        have HX := hid hcx
        clear hcx
        obtain ⟨x, hxk⟩ : ∃ x, x = xs[k + 1] := ⟨_, rfl⟩
        obtain ⟨y, hyk⟩ : ∃ y, y = xs[k] := ⟨_, rfl⟩
        simp only [← hxk] at hx0 hx1 hx2 hx3 hx4 HV
        simp only [← hyk] at hy0 HV
        clear hxk hyk
        by_cases hg : berOk q x = true
        rotate_left
        · have HG : Hid (berOk q x = false) := by show _ = _; simpa using hg
          clear hg
          have hg := HG.out
          simp only [berOk] at hg
          go_wp2_with (fail)
          refine wp_region_w (n := 25) [] [] (FS52_6_10 q wr x y bx ox k xs.length cap w) rfl (by kernel_rfl) (fun _ _ d _ _ h => by cases d <;> exact h) ?_ ?_ ?_ ?_ ?_ ?_
          · intro iq
            match iq with
            | 0 | 1 | 2 | 3 | 4 | 5 | 6 | 7 | 8 | 9 | 10 | 11 | 12 | 13 | 14 | 15 | 16 | 17 | 18 | 19 | 20 | 21 | 22 | 23 | 24 => exact Stable.const _
            | n + 25 => exact Stable.const _
          · intro iq hi
            exact absurd hi (by simp)
          · intro iq hi
            exact absurd hi (by simp)
          · intro iq o hi hl ho vals w1 hb1 hf
            exact absurd hl (by simp)
          · intro iq o hi hl ho vals w1 hb1 hf
            match iq, hi with
            | 0, _ =>
              injection ho with ho
              subst ho
              clear hl
              simp only [fillA, List.take, List.drop, put_none, Act.put, List.setIfInBounds_toArray, List.set_cons_zero, List.set_cons_succ, Nat.reduceAdd]
              clear hf
              go_wp2_with (fail)
              exact RQ.mk rfl ⟨(by first | rfl | (simp [FS52_6_10]; done) | (simp [FS52_6_10, *]; done) | (simp [FS52_6_10, gotV]; done) | (simp [FS52_6_10, gotV]; omega)), fun h => absurd h (by decide)⟩ (Below.refl _ _)
            | 1, _ =>
              injection ho with ho
              subst ho
              clear hl
              simp only [fillA, List.take, List.drop, put_none, Act.put, List.setIfInBounds_toArray, List.set_cons_zero, List.set_cons_succ, Nat.reduceAdd]
              clear hf
              go_wp2_with (fail)
              exact RQ.mk rfl ⟨(by first | rfl | (simp [FS52_6_10]; done) | (simp [FS52_6_10, *]; done) | (simp [FS52_6_10, gotV]; done) | (simp [FS52_6_10, gotV]; omega)), fun h => absurd h (by decide)⟩ (Below.refl _ _)
            | 2, _ =>
              injection ho with ho
              subst ho
              clear hl
              simp only [fillA, List.take, List.drop, put_none, Act.put, List.setIfInBounds_toArray, List.set_cons_zero, List.set_cons_succ, Nat.reduceAdd]
              clear hf
              go_wp2_with (fail)
              exact RQ.mk rfl ⟨(by first | rfl | (simp [FS52_6_10]; done) | (simp [FS52_6_10, *]; done) | (simp [FS52_6_10, gotV]; done) | (simp [FS52_6_10, gotV]; omega)), fun h => absurd h (by decide)⟩ (Below.refl _ _)
            | 3, _ =>
              injection ho with ho
              subst ho
              clear hl
              simp only [fillA, List.take, List.drop, put_none, Act.put, List.setIfInBounds_toArray, List.set_cons_zero, List.set_cons_succ, Nat.reduceAdd]
              have f1 := hf 1 (by decide) (by kernel_rfl)
              generalize vals 1 = v1 at *
              subst f1
              have f2 := hf 2 (by decide) (by kernel_rfl)
              generalize vals 2 = v2 at *
              subst f2
              clear hf
              go_wp2_with (fail)
              exact RQ.mk rfl ⟨(by first | rfl | (simp [FS52_6_10]; done) | (simp [FS52_6_10, *]; done) | (simp [FS52_6_10, gotV]; done) | (simp [FS52_6_10, gotV]; omega)), fun h => absurd h (by decide)⟩ (Below.refl _ _)
            | 4, _ =>
              injection ho with ho
              subst ho
              clear hl
              simp only [fillA, List.take, List.drop, put_none, Act.put, List.setIfInBounds_toArray, List.set_cons_zero, List.set_cons_succ, Nat.reduceAdd]
              have f3 := hf 3 (by decide) (by kernel_rfl)
              generalize vals 3 = v3 at *
              subst f3
              clear hf
              have hc1 := cellOf hb1
              have hf1 := frozOf hb1
              have hz1 := sizeOf hb1
              try simp at hz1
              go_wp2_with (fail)
              exact RQ.mk rfl ⟨(by first | rfl | (simp [FS52_6_10]; done) | (simp [FS52_6_10, *]; done) | (simp [FS52_6_10, gotV]; done) | (simp [FS52_6_10, gotV]; omega)), fun h => absurd h (by decide)⟩ (Below.refl _ _)
            | 5, _ =>
              injection ho with ho
              subst ho
              clear hl
              simp only [fillA, List.take, List.drop, put_none, Act.put, List.setIfInBounds_toArray, List.set_cons_zero, List.set_cons_succ, Nat.reduceAdd]
              have f0 := hf 0 (by decide) (by kernel_rfl)
              generalize vals 0 = v0 at *
              subst f0
              have f4 := hf 4 (by decide) (by kernel_rfl)
              generalize vals 4 = v4 at *
              subst f4
              clear hf
              have hc1 := cellOf hb1
              have hf1 := frozOf hb1
              have hz1 := sizeOf hb1
              try simp at hz1
              go_wp2_with (first | (go_at_call 79; refine (c_spec_l16One _ _ _ _ _ _ _ (by omega)).mono ?_; rintro e w' ⟨rfl, hb⟩; have hc := cellOf hb; have hf := frozOf hb; have hz := sizeOf hb; try simp at hz))
              exact RQ.mk rfl ⟨(by first | rfl | (simp [FS52_6_10]; done) | (simp [FS52_6_10, *]; done) | (simp [FS52_6_10, gotV]; done) | (simp [FS52_6_10, gotV]; omega)), fun h => absurd h (by decide)⟩ (by (repeat' (first | exact Below.refl _ _ | assumption | refine Below.setCell ?_ ?_ _ | refine Below.drew ?_ | refine Below.alloc ?_ ?_ _ | refine Below.trans ?_ (Below.mono (by assumption) ?_) | (simp; done) | (simp; omega) | omega)))
            | 6, _ =>
              injection ho with ho
              subst ho
              clear hl
              simp only [fillA, List.take, List.drop, put_none, Act.put, List.setIfInBounds_toArray, List.set_cons_zero, List.set_cons_succ, Nat.reduceAdd]
              have f5 := hf 5 (by decide) (by kernel_rfl)
              generalize vals 5 = v5 at *
              subst f5
              clear hf
              go_wp2_with (fail)
              exact RQ.mk rfl ⟨(by first | rfl | (simp [FS52_6_10]; done) | (simp [FS52_6_10, *]; done) | (simp [FS52_6_10, gotV]; done) | (simp [FS52_6_10, gotV]; omega)), fun h => absurd h (by decide)⟩ (Below.refl _ _)
            | 7, _ =>
              injection ho with ho
              subst ho
              clear hl
              simp only [fillA, List.take, List.drop, put_none, Act.put, List.setIfInBounds_toArray, List.set_cons_zero, List.set_cons_succ, Nat.reduceAdd]
              have f6 := hf 6 (by decide) (by kernel_rfl)
              generalize vals 6 = v6 at *
              subst f6
              have f5 := hf 5 (by decide) (by kernel_rfl)
              generalize vals 5 = v5 at *
              subst f5
              clear hf
              go_wp2_with (fail)
              exact RQ.mk rfl ⟨(by first | rfl | (simp [FS52_6_10]; done) | (simp [FS52_6_10, *]; done) | (simp [FS52_6_10, gotV]; done) | (simp [FS52_6_10, gotV]; omega)), fun h => absurd h (by decide)⟩ (Below.refl _ _)
            | 8, _ =>
              injection ho with ho
              subst ho
              clear hl
              simp only [fillA, List.take, List.drop, put_none, Act.put, List.setIfInBounds_toArray, List.set_cons_zero, List.set_cons_succ, Nat.reduceAdd]
              have f7 := hf 7 (by decide) (by kernel_rfl)
              generalize vals 7 = v7 at *
              subst f7
              clear hf
              go_wp2_with (fail)
              exact RQ.mk rfl ⟨(by first | rfl | (simp [FS52_6_10]; done) | (simp [FS52_6_10, *]; done) | (simp [FS52_6_10, gotV]; done) | (simp [FS52_6_10, gotV]; omega)), fun h => absurd h (by decide)⟩ (Below.refl _ _)
            | 9, _ =>
              injection ho with ho
              subst ho
              clear hl
              simp only [fillA, List.take, List.drop, put_none, Act.put, List.setIfInBounds_toArray, List.set_cons_zero, List.set_cons_succ, Nat.reduceAdd]
              have f8 := hf 8 (by decide) (by kernel_rfl)
              generalize vals 8 = v8 at *
              subst f8
              have f7 := hf 7 (by decide) (by kernel_rfl)
              generalize vals 7 = v7 at *
              subst f7
              clear hf
              go_wp2_with (fail)
              exact RQ.mk rfl ⟨(by first | rfl | (simp [FS52_6_10]; done) | (simp [FS52_6_10, *]; done) | (simp [FS52_6_10, gotV]; done) | (simp [FS52_6_10, gotV]; omega)), fun h => absurd h (by decide)⟩ (Below.refl _ _)
            | 10, _ =>
              injection ho with ho
              subst ho
              clear hl
              simp only [fillA, List.take, List.drop, put_none, Act.put, List.setIfInBounds_toArray, List.set_cons_zero, List.set_cons_succ, Nat.reduceAdd]
              have f9 := hf 9 (by decide) (by kernel_rfl)
              generalize vals 9 = v9 at *
              subst f9
              have f7 := hf 7 (by decide) (by kernel_rfl)
              generalize vals 7 = v7 at *
              subst f7
              clear hf
              go_wp2_with (fail)
              exact RQ.mk rfl ⟨(by first | rfl | (simp [FS52_6_10]; done) | (simp [FS52_6_10, *]; done) | (simp [FS52_6_10, gotV]; done) | (simp [FS52_6_10, gotV]; omega)), fun h => absurd h (by decide)⟩ (Below.refl _ _)
            | 11, _ =>
              injection ho with ho
              subst ho
              clear hl
              simp only [fillA, List.take, List.drop, put_none, Act.put, List.setIfInBounds_toArray, List.set_cons_zero, List.set_cons_succ, Nat.reduceAdd]
              have f10 := hf 10 (by decide) (by kernel_rfl)
              generalize vals 10 = v10 at *
              subst f10
              clear hf
              go_wp2_with (fail)
              exact RQ.mk rfl ⟨(by first | rfl | (simp [FS52_6_10]; done) | (simp [FS52_6_10, *]; done) | (simp [FS52_6_10, gotV]; done) | (simp [FS52_6_10, gotV]; omega)), fun h => absurd h (by decide)⟩ (Below.refl _ _)
            | 12, _ =>
              injection ho with ho
              subst ho
              clear hl
              simp only [fillA, List.take, List.drop, put_none, Act.put, List.setIfInBounds_toArray, List.set_cons_zero, List.set_cons_succ, Nat.reduceAdd]
              have f10 := hf 10 (by decide) (by kernel_rfl)
              generalize vals 10 = v10 at *
              subst f10
              clear hf
              go_wp2_with (fail)
              exact RQ.mk rfl ⟨(by first | rfl | (simp [FS52_6_10]; done) | (simp [FS52_6_10, *]; done) | (simp [FS52_6_10, gotV]; done) | (simp [FS52_6_10, gotV]; omega)), fun h => absurd h (by decide)⟩ (Below.refl _ _)
            | 13, _ =>
              injection ho with ho
              subst ho
              clear hl
              simp only [fillA, List.take, List.drop, put_none, Act.put, List.setIfInBounds_toArray, List.set_cons_zero, List.set_cons_succ, Nat.reduceAdd]
              have f12 := hf 12 (by decide) (by kernel_rfl)
              generalize vals 12 = v12 at *
              subst f12
              have f10 := hf 10 (by decide) (by kernel_rfl)
              generalize vals 10 = v10 at *
              subst f10
              clear hf
              go_wp2_with (fail)
              exact RQ.mk rfl ⟨(by first | rfl | (simp [FS52_6_10]; done) | (simp [FS52_6_10, *]; done) | (simp [FS52_6_10, gotV]; done) | (simp [FS52_6_10, gotV]; omega)), fun h => absurd h (by decide)⟩ (Below.refl _ _)
            | 14, _ =>
              injection ho with ho
              subst ho
              clear hl
              simp only [fillA, List.take, List.drop, put_none, Act.put, List.setIfInBounds_toArray, List.set_cons_zero, List.set_cons_succ, Nat.reduceAdd]
              have f11 := hf 11 (by decide) (by kernel_rfl)
              generalize vals 11 = v11 at *
              subst f11
              have f13 := hf 13 (by decide) (by kernel_rfl)
              generalize vals 13 = v13 at *
              subst f13
              have f10 := hf 10 (by decide) (by kernel_rfl)
              generalize vals 10 = v10 at *
              subst f10
              clear hf
              go_wp2_with (fail)
              exact RQ.mk rfl ⟨(by first | rfl | (simp [FS52_6_10]; done) | (simp [FS52_6_10, *]; done) | (simp [FS52_6_10, gotV]; done) | (simp [FS52_6_10, gotV]; omega)), fun h => absurd h (by decide)⟩ (Below.refl _ _)
            | 15, _ =>
              injection ho with ho
              subst ho
              clear hl
              simp only [fillA, List.take, List.drop, put_none, Act.put, List.setIfInBounds_toArray, List.set_cons_zero, List.set_cons_succ, Nat.reduceAdd]
              have f14 := hf 14 (by decide) (by kernel_rfl)
              generalize vals 14 = v14 at *
              subst f14
              have f10 := hf 10 (by decide) (by kernel_rfl)
              generalize vals 10 = v10 at *
              subst f10
              clear hf
              go_wp2_with (fail)
              exact RQ.mk rfl ⟨(by first | rfl | (simp [FS52_6_10]; done) | (simp [FS52_6_10, *]; done) | (simp [FS52_6_10, gotV]; done) | (simp [FS52_6_10, gotV]; omega)), fun h => absurd h (by decide)⟩ (Below.refl _ _)
            | 16, _ =>
              injection ho with ho
              subst ho
              clear hl
              simp only [fillA, List.take, List.drop, put_none, Act.put, List.setIfInBounds_toArray, List.set_cons_zero, List.set_cons_succ, Nat.reduceAdd]
              have f15 := hf 15 (by decide) (by kernel_rfl)
              generalize vals 15 = v15 at *
              subst f15
              have f10 := hf 10 (by decide) (by kernel_rfl)
              generalize vals 10 = v10 at *
              subst f10
              clear hf
              go_wp2_with (fail)
              exact RQ.mk rfl ⟨(by first | rfl | (simp [FS52_6_10]; done) | (simp [FS52_6_10, *]; done) | (simp [FS52_6_10, gotV]; done) | (simp [FS52_6_10, gotV]; omega)), fun h => absurd h (by decide)⟩ (Below.refl _ _)
            | 17, _ =>
              injection ho with ho
              subst ho
              clear hl
              simp only [fillA, List.take, List.drop, put_none, Act.put, List.setIfInBounds_toArray, List.set_cons_zero, List.set_cons_succ, Nat.reduceAdd]
              have f10 := hf 10 (by decide) (by kernel_rfl)
              generalize vals 10 = v10 at *
              subst f10
              clear hf
              go_wp2_with (fail)
              exact RQ.mk rfl ⟨(by first | rfl | (simp [FS52_6_10]; done) | (simp [FS52_6_10, *]; done) | (simp [FS52_6_10, gotV]; done) | (simp [FS52_6_10, gotV]; omega)), fun h => absurd h (by decide)⟩ (Below.refl _ _)
            | 18, _ =>
              injection ho with ho
              subst ho
              clear hl
              simp only [fillA, List.take, List.drop, put_none, Act.put, List.setIfInBounds_toArray, List.set_cons_zero, List.set_cons_succ, Nat.reduceAdd]
              have f10 := hf 10 (by decide) (by kernel_rfl)
              generalize vals 10 = v10 at *
              subst f10
              clear hf
              go_wp2_with (fail)
              exact RQ.mk rfl ⟨(by first | rfl | (simp [FS52_6_10]; done) | (simp [FS52_6_10, *]; done) | (simp [FS52_6_10, gotV]; done) | (simp [FS52_6_10, gotV]; omega)), fun h => absurd h (by decide)⟩ (Below.refl _ _)
            | 19, _ =>
              injection ho with ho
              subst ho
              clear hl
              simp only [fillA, List.take, List.drop, put_none, Act.put, List.setIfInBounds_toArray, List.set_cons_zero, List.set_cons_succ, Nat.reduceAdd]
              have f17 := hf 17 (by decide) (by kernel_rfl)
              generalize vals 17 = v17 at *
              subst f17
              have f18 := hf 18 (by decide) (by kernel_rfl)
              generalize vals 18 = v18 at *
              subst f18
              have f10 := hf 10 (by decide) (by kernel_rfl)
              generalize vals 10 = v10 at *
              subst f10
              clear hf
              go_wp2_with (fail)
              exact RQ.mk rfl ⟨(by first | rfl | (simp [FS52_6_10]; done) | (simp [FS52_6_10, *]; done) | (simp [FS52_6_10, gotV]; done) | (simp [FS52_6_10, gotV]; omega)), fun h => absurd h (by decide)⟩ (Below.refl _ _)
            | 20, _ =>
              injection ho with ho
              subst ho
              clear hl
              simp only [fillA, List.take, List.drop, put_none, Act.put, List.setIfInBounds_toArray, List.set_cons_zero, List.set_cons_succ, Nat.reduceAdd]
              have f19 := hf 19 (by decide) (by kernel_rfl)
              generalize vals 19 = v19 at *
              subst f19
              have f10 := hf 10 (by decide) (by kernel_rfl)
              generalize vals 10 = v10 at *
              subst f10
              clear hf
              go_wp2_with (fail)
              exact RQ.mk rfl ⟨(by first | rfl | (simp [FS52_6_10]; done) | (simp [FS52_6_10, *]; done) | (simp [FS52_6_10, gotV]; done) | (simp [FS52_6_10, gotV]; omega)), fun h => absurd h (by decide)⟩ (Below.refl _ _)
            | 21, _ =>
              injection ho with ho
              subst ho
              clear hl
              simp only [fillA, List.take, List.drop, put_none, Act.put, List.setIfInBounds_toArray, List.set_cons_zero, List.set_cons_succ, Nat.reduceAdd]
              have f20 := hf 20 (by decide) (by kernel_rfl)
              generalize vals 20 = v20 at *
              subst f20
              have f10 := hf 10 (by decide) (by kernel_rfl)
              generalize vals 10 = v10 at *
              subst f10
              clear hf
              go_wp2_with (fail)
              exact RQ.mk rfl ⟨(by first | rfl | (simp [FS52_6_10]; done) | (simp [FS52_6_10, *]; done) | (simp [FS52_6_10, gotV]; done) | (simp [FS52_6_10, gotV]; omega)), fun h => absurd h (by decide)⟩ (Below.refl _ _)
            | 22, _ =>
              injection ho with ho
              subst ho
              clear hl
              simp only [fillA, List.take, List.drop, put_none, Act.put, List.setIfInBounds_toArray, List.set_cons_zero, List.set_cons_succ, Nat.reduceAdd]
              have f16 := hf 16 (by decide) (by kernel_rfl)
              generalize vals 16 = v16 at *
              subst f16
              have f21 := hf 21 (by decide) (by kernel_rfl)
              generalize vals 21 = v21 at *
              subst f21
              have f10 := hf 10 (by decide) (by kernel_rfl)
              generalize vals 10 = v10 at *
              subst f10
              clear hf
              go_wp2_with (fail)
              exact RQ.mk rfl ⟨(by first | rfl | (simp [FS52_6_10]; done) | (simp [FS52_6_10, *]; done) | (simp [FS52_6_10, gotV]; done) | (simp [FS52_6_10, gotV]; omega)), fun h => absurd h (by decide)⟩ (Below.refl _ _)
            | 23, _ =>
              injection ho with ho
              subst ho
              clear hl
              simp only [fillA, List.take, List.drop, put_none, Act.put, List.setIfInBounds_toArray, List.set_cons_zero, List.set_cons_succ, Nat.reduceAdd]
              have f10 := hf 10 (by decide) (by kernel_rfl)
              generalize vals 10 = v10 at *
              subst f10
              have f22 := hf 22 (by decide) (by kernel_rfl)
              generalize vals 22 = v22 at *
              subst f22
              have f7 := hf 7 (by decide) (by kernel_rfl)
              generalize vals 7 = v7 at *
              subst f7
              clear hf
              go_wp2_with (fail)
              exact RQ.mk rfl ⟨(by first | rfl | (simp [FS52_6_10]; done) | (simp [FS52_6_10, *]; done) | (simp [FS52_6_10, gotV]; done) | (simp [FS52_6_10, gotV]; omega)), fun h => absurd h (by decide)⟩ (Below.refl _ _)
            | 24, _ =>
              injection ho with ho
              subst ho
              clear hl
              simp only [fillA, List.take, List.drop, put_none, Act.put, List.setIfInBounds_toArray, List.set_cons_zero, List.set_cons_succ, Nat.reduceAdd]
              have f7 := hf 7 (by decide) (by kernel_rfl)
              generalize vals 7 = v7 at *
              subst f7
              have f23 := hf 23 (by decide) (by kernel_rfl)
              generalize vals 23 = v23 at *
              subst f23
              clear hf
              go_wp2_with (fail)
              exact RQ.mk rfl ⟨(by first | rfl | (simp [FS52_6_10]; done) | (simp [FS52_6_10, *]; done) | (simp [FS52_6_10, gotV]; done) | (simp [FS52_6_10, gotV]; omega)), fun h => absurd h (by decide)⟩ (Below.refl _ _)
            | m + 25, h => exact absurd h (by omega)
          · intro vals w1 hb1 hf hd
            simp only [fillA, List.take, List.drop, put_none, Act.put, List.setIfInBounds_toArray, List.set_cons_zero, List.set_cons_succ, Nat.reduceAdd]
            clear hd
            have f0 := hf 0 (by decide)
            generalize vals 0 = v0 at *
            subst f0
            have f1 := hf 1 (by decide)
            generalize vals 1 = v1 at *
            subst f1
            have f2 := hf 2 (by decide)
            generalize vals 2 = v2 at *
            subst f2
            have f3 := hf 3 (by decide)
            generalize vals 3 = v3 at *
            subst f3
            have f4 := hf 4 (by decide)
            generalize vals 4 = v4 at *
            subst f4
            have f5 := hf 5 (by decide)
            generalize vals 5 = v5 at *
            subst f5
            have f6 := hf 6 (by decide)
            generalize vals 6 = v6 at *
            subst f6
            have f7 := hf 7 (by decide)
            generalize vals 7 = v7 at *
            subst f7
            have f8 := hf 8 (by decide)
            generalize vals 8 = v8 at *
            subst f8
            have f9 := hf 9 (by decide)
            generalize vals 9 = v9 at *
            subst f9
            have f10 := hf 10 (by decide)
            generalize vals 10 = v10 at *
            subst f10
            have f11 := hf 11 (by decide)
            generalize vals 11 = v11 at *
            subst f11
            have f12 := hf 12 (by decide)
            generalize vals 12 = v12 at *
            subst f12
            have f13 := hf 13 (by decide)
            generalize vals 13 = v13 at *
            subst f13
            have f14 := hf 14 (by decide)
            generalize vals 14 = v14 at *
            subst f14
            have f15 := hf 15 (by decide)
            generalize vals 15 = v15 at *
            subst f15
            have f16 := hf 16 (by decide)
            generalize vals 16 = v16 at *
            subst f16
            have f17 := hf 17 (by decide)
            generalize vals 17 = v17 at *
            subst f17
            have f18 := hf 18 (by decide)
            generalize vals 18 = v18 at *
            subst f18
            have f19 := hf 19 (by decide)
            generalize vals 19 = v19 at *
            subst f19
            have f20 := hf 20 (by decide)
            generalize vals 20 = v20 at *
            subst f20
            have f21 := hf 21 (by decide)
            generalize vals 21 = v21 at *
            subst f21
            have f22 := hf 22 (by decide)
            generalize vals 22 = v22 at *
            subst f22
            have f23 := hf 23 (by decide)
            generalize vals 23 = v23 at *
            subst f23
            have f24 := hf 24 (by decide)
            generalize vals 24 = v24 at *
            subst f24
            clear hf
            have hc1 := cellOf hb1
            have hf1 := frozOf hb1
            have hz1 := sizeOf hb1
            try simp at hz1
            go_wp2_with (fail)
            go_ret
            exact ⟨ret_bool (by rw [HB.out (by rw [HV.out, HG.out]; rfl)]), by (repeat' (first | exact Below.refl _ _ | assumption | refine Below.setCell ?_ ?_ _ | refine Below.drew ?_ | refine Below.alloc ?_ ?_ _ | refine Below.trans ?_ (Below.mono (by assumption) ?_) | (simp; done) | (simp; omega) | omega))⟩
        have HG := hid hg
        have hxb := berOk_bd hg
        simp only [berOk] at hg
        by_cases hl2 : y.1 < x.1
        rotate_left
        · have H2 : Hid (decide (y.1 < x.1) = false) := by show _ = _; simpa using hl2
          go_wp2_with (fail)
          refine wp_region_w (n := 25) [] [] (FS52_6_11 q wr x y bx ox k xs.length cap w) rfl (by kernel_rfl) (fun _ _ d _ _ h => by cases d <;> exact h) ?_ ?_ ?_ ?_ ?_ ?_
          · intro iq
            match iq with
            | 0 | 1 | 2 | 3 | 4 | 5 | 6 | 7 | 8 | 9 | 10 | 11 | 12 | 13 | 14 | 15 | 16 | 17 | 18 | 19 | 20 | 21 | 22 | 23 | 24 => exact Stable.const _
            | n + 25 => exact Stable.const _
          · intro iq hi
            exact absurd hi (by simp)
          · intro iq hi
            exact absurd hi (by simp)
          · intro iq o hi hl ho vals w1 hb1 hf
            exact absurd hl (by simp)
          · intro iq o hi hl ho vals w1 hb1 hf
            match iq, hi with
            | 0, _ =>
              injection ho with ho
              subst ho
              clear hl
              simp only [fillA, List.take, List.drop, put_none, Act.put, List.setIfInBounds_toArray, List.set_cons_zero, List.set_cons_succ, Nat.reduceAdd]
              clear hf
              go_wp2_with (fail)
              exact RQ.mk rfl ⟨(by first | rfl | (simp [FS52_6_11]; done) | (simp [FS52_6_11, *]; done) | (simp [FS52_6_11, gotV]; done) | (simp [FS52_6_11, gotV]; omega)), fun h => absurd h (by decide)⟩ (Below.refl _ _)
            | 1, _ =>
              injection ho with ho
              subst ho
              clear hl
              simp only [fillA, List.take, List.drop, put_none, Act.put, List.setIfInBounds_toArray, List.set_cons_zero, List.set_cons_succ, Nat.reduceAdd]
              clear hf
              go_wp2_with (fail)
              exact RQ.mk rfl ⟨(by first | rfl | (simp [FS52_6_11]; done) | (simp [FS52_6_11, *]; done) | (simp [FS52_6_11, gotV]; done) | (simp [FS52_6_11, gotV]; omega)), fun h => absurd h (by decide)⟩ (Below.refl _ _)
            | 2, _ =>
              injection ho with ho
              subst ho
              clear hl
              simp only [fillA, List.take, List.drop, put_none, Act.put, List.setIfInBounds_toArray, List.set_cons_zero, List.set_cons_succ, Nat.reduceAdd]
              clear hf
              go_wp2_with (fail)
              exact RQ.mk rfl ⟨(by first | rfl | (simp [FS52_6_11]; done) | (simp [FS52_6_11, *]; done) | (simp [FS52_6_11, gotV]; done) | (simp [FS52_6_11, gotV]; omega)), fun h => absurd h (by decide)⟩ (Below.refl _ _)
            | 3, _ =>
              injection ho with ho
              subst ho
              clear hl
              simp only [fillA, List.take, List.drop, put_none, Act.put, List.setIfInBounds_toArray, List.set_cons_zero, List.set_cons_succ, Nat.reduceAdd]
              have f1 := hf 1 (by decide) (by kernel_rfl)
              generalize vals 1 = v1 at *
              subst f1
              have f2 := hf 2 (by decide) (by kernel_rfl)
              generalize vals 2 = v2 at *
              subst f2
              clear hf
              go_wp2_with (fail)
              exact RQ.mk rfl ⟨(by first | rfl | (simp [FS52_6_11]; done) | (simp [FS52_6_11, *]; done) | (simp [FS52_6_11, gotV]; done) | (simp [FS52_6_11, gotV]; omega)), fun h => absurd h (by decide)⟩ (Below.refl _ _)
            | 4, _ =>
              injection ho with ho
              subst ho
              clear hl
              simp only [fillA, List.take, List.drop, put_none, Act.put, List.setIfInBounds_toArray, List.set_cons_zero, List.set_cons_succ, Nat.reduceAdd]
              have f3 := hf 3 (by decide) (by kernel_rfl)
              generalize vals 3 = v3 at *
              subst f3
              clear hf
              have hc1 := cellOf hb1
              have hf1 := frozOf hb1
              have hz1 := sizeOf hb1
              try simp at hz1
              go_wp2_with (fail)
              exact RQ.mk rfl ⟨(by first | rfl | (simp [FS52_6_11]; done) | (simp [FS52_6_11, *]; done) | (simp [FS52_6_11, gotV]; done) | (simp [FS52_6_11, gotV]; omega)), fun h => absurd h (by decide)⟩ (Below.refl _ _)
            | 5, _ =>
              injection ho with ho
              subst ho
              clear hl
              simp only [fillA, List.take, List.drop, put_none, Act.put, List.setIfInBounds_toArray, List.set_cons_zero, List.set_cons_succ, Nat.reduceAdd]
              have f0 := hf 0 (by decide) (by kernel_rfl)
              generalize vals 0 = v0 at *
              subst f0
              have f4 := hf 4 (by decide) (by kernel_rfl)
              generalize vals 4 = v4 at *
              subst f4
              clear hf
              have hc1 := cellOf hb1
              have hf1 := frozOf hb1
              have hz1 := sizeOf hb1
              try simp at hz1
              go_wp2_with (first | (go_at_call 79; refine (c_spec_l16One _ _ _ _ _ _ _ (by omega)).mono ?_; rintro e w' ⟨rfl, hb⟩; have hc := cellOf hb; have hf := frozOf hb; have hz := sizeOf hb; try simp at hz))
              exact RQ.mk rfl ⟨(by first | rfl | (simp [FS52_6_11]; done) | (simp [FS52_6_11, *]; done) | (simp [FS52_6_11, gotV]; done) | (simp [FS52_6_11, gotV]; omega)), fun h => absurd h (by decide)⟩ (by (repeat' (first | exact Below.refl _ _ | assumption | refine Below.setCell ?_ ?_ _ | refine Below.drew ?_ | refine Below.alloc ?_ ?_ _ | refine Below.trans ?_ (Below.mono (by assumption) ?_) | (simp; done) | (simp; omega) | omega)))
            | 6, _ =>
              injection ho with ho
              subst ho
              clear hl
              simp only [fillA, List.take, List.drop, put_none, Act.put, List.setIfInBounds_toArray, List.set_cons_zero, List.set_cons_succ, Nat.reduceAdd]
              have f5 := hf 5 (by decide) (by kernel_rfl)
              generalize vals 5 = v5 at *
              subst f5
              clear hf
              go_wp2_with (fail)
              exact RQ.mk rfl ⟨(by first | rfl | (simp [FS52_6_11]; done) | (simp [FS52_6_11, *]; done) | (simp [FS52_6_11, gotV]; done) | (simp [FS52_6_11, gotV]; omega)), fun h => absurd h (by decide)⟩ (Below.refl _ _)
            | 7, _ =>
              injection ho with ho
              subst ho
              clear hl
              simp only [fillA, List.take, List.drop, put_none, Act.put, List.setIfInBounds_toArray, List.set_cons_zero, List.set_cons_succ, Nat.reduceAdd]
              have f6 := hf 6 (by decide) (by kernel_rfl)
              generalize vals 6 = v6 at *
              subst f6
              have f5 := hf 5 (by decide) (by kernel_rfl)
              generalize vals 5 = v5 at *
              subst f5
              clear hf
              go_wp2_with (fail)
              exact RQ.mk rfl ⟨(by first | rfl | (simp [FS52_6_11]; done) | (simp [FS52_6_11, *]; done) | (simp [FS52_6_11, gotV]; done) | (simp [FS52_6_11, gotV]; omega)), fun h => absurd h (by decide)⟩ (Below.refl _ _)
            | 8, _ =>
              injection ho with ho
              subst ho
              clear hl
              simp only [fillA, List.take, List.drop, put_none, Act.put, List.setIfInBounds_toArray, List.set_cons_zero, List.set_cons_succ, Nat.reduceAdd]
              have f7 := hf 7 (by decide) (by kernel_rfl)
              generalize vals 7 = v7 at *
              subst f7
              clear hf
              go_wp2_with (fail)
              exact RQ.mk rfl ⟨(by first | rfl | (simp [FS52_6_11]; done) | (simp [FS52_6_11, *]; done) | (simp [FS52_6_11, gotV]; done) | (simp [FS52_6_11, gotV]; omega)), fun h => absurd h (by decide)⟩ (Below.refl _ _)
            | 9, _ =>
              injection ho with ho
              subst ho
              clear hl
              simp only [fillA, List.take, List.drop, put_none, Act.put, List.setIfInBounds_toArray, List.set_cons_zero, List.set_cons_succ, Nat.reduceAdd]
              have f8 := hf 8 (by decide) (by kernel_rfl)
              generalize vals 8 = v8 at *
              subst f8
              have f7 := hf 7 (by decide) (by kernel_rfl)
              generalize vals 7 = v7 at *
              subst f7
              clear hf
              go_wp2_with (fail)
              exact RQ.mk rfl ⟨(by first | rfl | (simp [FS52_6_11]; done) | (simp [FS52_6_11, *]; done) | (simp [FS52_6_11, gotV]; done) | (simp [FS52_6_11, gotV]; omega)), fun h => absurd h (by decide)⟩ (Below.refl _ _)
            | 10, _ =>
              injection ho with ho
              subst ho
              clear hl
              simp only [fillA, List.take, List.drop, put_none, Act.put, List.setIfInBounds_toArray, List.set_cons_zero, List.set_cons_succ, Nat.reduceAdd]
              have f9 := hf 9 (by decide) (by kernel_rfl)
              generalize vals 9 = v9 at *
              subst f9
              have f7 := hf 7 (by decide) (by kernel_rfl)
              generalize vals 7 = v7 at *
              subst f7
              clear hf
              go_wp2_with (fail)
              exact RQ.mk rfl ⟨(by first | rfl | (simp [FS52_6_11]; done) | (simp [FS52_6_11, *]; done) | (simp [FS52_6_11, gotV]; done) | (simp [FS52_6_11, gotV]; omega)), fun h => absurd h (by decide)⟩ (Below.refl _ _)
            | 11, _ =>
              injection ho with ho
              subst ho
              clear hl
              simp only [fillA, List.take, List.drop, put_none, Act.put, List.setIfInBounds_toArray, List.set_cons_zero, List.set_cons_succ, Nat.reduceAdd]
              have f10 := hf 10 (by decide) (by kernel_rfl)
              generalize vals 10 = v10 at *
              subst f10
              clear hf
              go_wp2_with (fail)
              exact RQ.mk rfl ⟨(by first | rfl | (simp [FS52_6_11]; done) | (simp [FS52_6_11, *]; done) | (simp [FS52_6_11, gotV]; done) | (simp [FS52_6_11, gotV]; omega)), fun h => absurd h (by decide)⟩ (Below.refl _ _)
            | 12, _ =>
              injection ho with ho
              subst ho
              clear hl
              simp only [fillA, List.take, List.drop, put_none, Act.put, List.setIfInBounds_toArray, List.set_cons_zero, List.set_cons_succ, Nat.reduceAdd]
              have f10 := hf 10 (by decide) (by kernel_rfl)
              generalize vals 10 = v10 at *
              subst f10
              clear hf
              go_wp2_with (fail)
              exact RQ.mk rfl ⟨(by first | rfl | (simp [FS52_6_11]; done) | (simp [FS52_6_11, *]; done) | (simp [FS52_6_11, gotV]; done) | (simp [FS52_6_11, gotV]; omega)), fun h => absurd h (by decide)⟩ (Below.refl _ _)
            | 13, _ =>
              injection ho with ho
              subst ho
              clear hl
              simp only [fillA, List.take, List.drop, put_none, Act.put, List.setIfInBounds_toArray, List.set_cons_zero, List.set_cons_succ, Nat.reduceAdd]
              have f12 := hf 12 (by decide) (by kernel_rfl)
              generalize vals 12 = v12 at *
              subst f12
              have f10 := hf 10 (by decide) (by kernel_rfl)
              generalize vals 10 = v10 at *
              subst f10
              clear hf
              go_wp2_with (fail)
              exact RQ.mk rfl ⟨(by first | rfl | (simp [FS52_6_11]; done) | (simp [FS52_6_11, *]; done) | (simp [FS52_6_11, gotV]; done) | (simp [FS52_6_11, gotV]; omega)), fun h => absurd h (by decide)⟩ (Below.refl _ _)
            | 14, _ =>
              injection ho with ho
              subst ho
              clear hl
              simp only [fillA, List.take, List.drop, put_none, Act.put, List.setIfInBounds_toArray, List.set_cons_zero, List.set_cons_succ, Nat.reduceAdd]
              have f11 := hf 11 (by decide) (by kernel_rfl)
              generalize vals 11 = v11 at *
              subst f11
              have f13 := hf 13 (by decide) (by kernel_rfl)
              generalize vals 13 = v13 at *
              subst f13
              have f10 := hf 10 (by decide) (by kernel_rfl)
              generalize vals 10 = v10 at *
              subst f10
              clear hf
              go_wp2_with (fail)
              exact RQ.mk rfl ⟨(by first | rfl | (simp [FS52_6_11]; done) | (simp [FS52_6_11, *]; done) | (simp [FS52_6_11, gotV]; done) | (simp [FS52_6_11, gotV]; omega)), fun h => absurd h (by decide)⟩ (Below.refl _ _)
            | 15, _ =>
              injection ho with ho
              subst ho
              clear hl
              simp only [fillA, List.take, List.drop, put_none, Act.put, List.setIfInBounds_toArray, List.set_cons_zero, List.set_cons_succ, Nat.reduceAdd]
              have f14 := hf 14 (by decide) (by kernel_rfl)
              generalize vals 14 = v14 at *
              subst f14
              have f10 := hf 10 (by decide) (by kernel_rfl)
              generalize vals 10 = v10 at *
              subst f10
              clear hf
              go_wp2_with (fail)
              exact RQ.mk rfl ⟨(by first | rfl | (simp [FS52_6_11]; done) | (simp [FS52_6_11, *]; done) | (simp [FS52_6_11, gotV]; done) | (simp [FS52_6_11, gotV]; omega)), fun h => absurd h (by decide)⟩ (Below.refl _ _)
            | 16, _ =>
              injection ho with ho
              subst ho
              clear hl
              simp only [fillA, List.take, List.drop, put_none, Act.put, List.setIfInBounds_toArray, List.set_cons_zero, List.set_cons_succ, Nat.reduceAdd]
              have f15 := hf 15 (by decide) (by kernel_rfl)
              generalize vals 15 = v15 at *
              subst f15
              have f10 := hf 10 (by decide) (by kernel_rfl)
              generalize vals 10 = v10 at *
              subst f10
              clear hf
              have hc1 := cellOf hb1
              have hf1 := frozOf hb1
              have hz1 := sizeOf hb1
              try simp at hz1
              go_wp2_with (fail)
              exact RQ.mk rfl ⟨(by first | rfl | (simp [FS52_6_11]; done) | (simp [FS52_6_11, *]; done) | (simp [FS52_6_11, gotV]; done) | (simp [FS52_6_11, gotV]; omega)), fun h => absurd h (by decide)⟩ (Below.refl _ _)
            | 17, _ =>
              injection ho with ho
              subst ho
              clear hl
              simp only [fillA, List.take, List.drop, put_none, Act.put, List.setIfInBounds_toArray, List.set_cons_zero, List.set_cons_succ, Nat.reduceAdd]
              have f10 := hf 10 (by decide) (by kernel_rfl)
              generalize vals 10 = v10 at *
              subst f10
              clear hf
              go_wp2_with (fail)
              exact RQ.mk rfl ⟨(by first | rfl | (simp [FS52_6_11]; done) | (simp [FS52_6_11, *]; done) | (simp [FS52_6_11, gotV]; done) | (simp [FS52_6_11, gotV]; omega)), fun h => absurd h (by decide)⟩ (Below.refl _ _)
            | 18, _ =>
              injection ho with ho
              subst ho
              clear hl
              simp only [fillA, List.take, List.drop, put_none, Act.put, List.setIfInBounds_toArray, List.set_cons_zero, List.set_cons_succ, Nat.reduceAdd]
              have f10 := hf 10 (by decide) (by kernel_rfl)
              generalize vals 10 = v10 at *
              subst f10
              clear hf
              go_wp2_with (fail)
              exact RQ.mk rfl ⟨(by first | rfl | (simp [FS52_6_11]; done) | (simp [FS52_6_11, *]; done) | (simp [FS52_6_11, gotV]; done) | (simp [FS52_6_11, gotV]; omega)), fun h => absurd h (by decide)⟩ (Below.refl _ _)
            | 19, _ =>
              injection ho with ho
              subst ho
              clear hl
              simp only [fillA, List.take, List.drop, put_none, Act.put, List.setIfInBounds_toArray, List.set_cons_zero, List.set_cons_succ, Nat.reduceAdd]
              have f17 := hf 17 (by decide) (by kernel_rfl)
              generalize vals 17 = v17 at *
              subst f17
              have f18 := hf 18 (by decide) (by kernel_rfl)
              generalize vals 18 = v18 at *
              subst f18
              have f10 := hf 10 (by decide) (by kernel_rfl)
              generalize vals 10 = v10 at *
              subst f10
              clear hf
              go_wp2_with (fail)
              exact RQ.mk rfl ⟨(by first | rfl | (simp [FS52_6_11]; done) | (simp [FS52_6_11, *]; done) | (simp [FS52_6_11, gotV]; done) | (simp [FS52_6_11, gotV]; omega)), fun h => absurd h (by decide)⟩ (Below.refl _ _)
            | 20, _ =>
              injection ho with ho
              subst ho
              clear hl
              simp only [fillA, List.take, List.drop, put_none, Act.put, List.setIfInBounds_toArray, List.set_cons_zero, List.set_cons_succ, Nat.reduceAdd]
              have f19 := hf 19 (by decide) (by kernel_rfl)
              generalize vals 19 = v19 at *
              subst f19
              have f10 := hf 10 (by decide) (by kernel_rfl)
              generalize vals 10 = v10 at *
              subst f10
              clear hf
              go_wp2_with (fail)
              exact RQ.mk rfl ⟨(by first | rfl | (simp [FS52_6_11]; done) | (simp [FS52_6_11, *]; done) | (simp [FS52_6_11, gotV]; done) | (simp [FS52_6_11, gotV]; omega)), fun h => absurd h (by decide)⟩ (Below.refl _ _)
            | 21, _ =>
              injection ho with ho
              subst ho
              clear hl
              simp only [fillA, List.take, List.drop, put_none, Act.put, List.setIfInBounds_toArray, List.set_cons_zero, List.set_cons_succ, Nat.reduceAdd]
              have f20 := hf 20 (by decide) (by kernel_rfl)
              generalize vals 20 = v20 at *
              subst f20
              have f10 := hf 10 (by decide) (by kernel_rfl)
              generalize vals 10 = v10 at *
              subst f10
              clear hf
              have hc1 := cellOf hb1
              have hf1 := frozOf hb1
              have hz1 := sizeOf hb1
              try simp at hz1
              go_wp2_with (fail)
              exact RQ.mk rfl ⟨(by first | rfl | (simp [FS52_6_11]; done) | (simp [FS52_6_11, *]; done) | (simp [FS52_6_11, gotV]; done) | (simp [FS52_6_11, gotV]; omega)), fun h => absurd h (by decide)⟩ (Below.refl _ _)
            | 22, _ =>
              injection ho with ho
              subst ho
              clear hl
              simp only [fillA, List.take, List.drop, put_none, Act.put, List.setIfInBounds_toArray, List.set_cons_zero, List.set_cons_succ, Nat.reduceAdd]
              have f16 := hf 16 (by decide) (by kernel_rfl)
              generalize vals 16 = v16 at *
              subst f16
              have f21 := hf 21 (by decide) (by kernel_rfl)
              generalize vals 21 = v21 at *
              subst f21
              have f10 := hf 10 (by decide) (by kernel_rfl)
              generalize vals 10 = v10 at *
              subst f10
              clear hf
              go_wp2_with (fail)
              exact RQ.mk rfl ⟨(by first | rfl | (simp [FS52_6_11]; done) | (simp [FS52_6_11, *]; done) | (simp [FS52_6_11, gotV]; done) | (simp [FS52_6_11, gotV]; omega)), fun h => absurd h (by decide)⟩ (Below.refl _ _)
            | 23, _ =>
              injection ho with ho
              subst ho
              clear hl
              simp only [fillA, List.take, List.drop, put_none, Act.put, List.setIfInBounds_toArray, List.set_cons_zero, List.set_cons_succ, Nat.reduceAdd]
              have f10 := hf 10 (by decide) (by kernel_rfl)
              generalize vals 10 = v10 at *
              subst f10
              have f22 := hf 22 (by decide) (by kernel_rfl)
              generalize vals 22 = v22 at *
              subst f22
              have f7 := hf 7 (by decide) (by kernel_rfl)
              generalize vals 7 = v7 at *
              subst f7
              clear hf
              go_wp2_with (fail)
              exact RQ.mk rfl ⟨(by first | rfl | (simp [FS52_6_11]; done) | (simp [FS52_6_11, *]; done) | (simp [FS52_6_11, gotV]; done) | (simp [FS52_6_11, gotV]; omega)), fun h => absurd h (by decide)⟩ (Below.refl _ _)
            | 24, _ =>
              injection ho with ho
              subst ho
              clear hl
              simp only [fillA, List.take, List.drop, put_none, Act.put, List.setIfInBounds_toArray, List.set_cons_zero, List.set_cons_succ, Nat.reduceAdd]
              have f7 := hf 7 (by decide) (by kernel_rfl)
              generalize vals 7 = v7 at *
              subst f7
              have f23 := hf 23 (by decide) (by kernel_rfl)
              generalize vals 23 = v23 at *
              subst f23
              clear hf
              go_wp2_with (fail)
              exact RQ.mk rfl ⟨(by first | rfl | (simp [FS52_6_11]; done) | (simp [FS52_6_11, *]; done) | (simp [FS52_6_11, gotV]; done) | (simp [FS52_6_11, gotV]; omega)), fun h => absurd h (by decide)⟩ (Below.refl _ _)
            | m + 25, h => exact absurd h (by omega)
          · intro vals w1 hb1 hf hd
            simp only [fillA, List.take, List.drop, put_none, Act.put, List.setIfInBounds_toArray, List.set_cons_zero, List.set_cons_succ, Nat.reduceAdd]
            clear hd
            have f0 := hf 0 (by decide)
            generalize vals 0 = v0 at *
            subst f0
            have f1 := hf 1 (by decide)
            generalize vals 1 = v1 at *
            subst f1
            have f2 := hf 2 (by decide)
            generalize vals 2 = v2 at *
            subst f2
            have f3 := hf 3 (by decide)
            generalize vals 3 = v3 at *
            subst f3
            have f4 := hf 4 (by decide)
            generalize vals 4 = v4 at *
            subst f4
            have f5 := hf 5 (by decide)
            generalize vals 5 = v5 at *
            subst f5
            have f6 := hf 6 (by decide)
            generalize vals 6 = v6 at *
            subst f6
            have f7 := hf 7 (by decide)
            generalize vals 7 = v7 at *
            subst f7
            have f8 := hf 8 (by decide)
            generalize vals 8 = v8 at *
            subst f8
            have f9 := hf 9 (by decide)
            generalize vals 9 = v9 at *
            subst f9
            have f10 := hf 10 (by decide)
            generalize vals 10 = v10 at *
            subst f10
            have f11 := hf 11 (by decide)
            generalize vals 11 = v11 at *
            subst f11
            have f12 := hf 12 (by decide)
            generalize vals 12 = v12 at *
            subst f12
            have f13 := hf 13 (by decide)
            generalize vals 13 = v13 at *
            subst f13
            have f14 := hf 14 (by decide)
            generalize vals 14 = v14 at *
            subst f14
            have f15 := hf 15 (by decide)
            generalize vals 15 = v15 at *
            subst f15
            have f16 := hf 16 (by decide)
            generalize vals 16 = v16 at *
            subst f16
            have f17 := hf 17 (by decide)
            generalize vals 17 = v17 at *
            subst f17
            have f18 := hf 18 (by decide)
            generalize vals 18 = v18 at *
            subst f18
            have f19 := hf 19 (by decide)
            generalize vals 19 = v19 at *
            subst f19
            have f20 := hf 20 (by decide)
            generalize vals 20 = v20 at *
            subst f20
            have f21 := hf 21 (by decide)
            generalize vals 21 = v21 at *
            subst f21
            have f22 := hf 22 (by decide)
            generalize vals 22 = v22 at *
            subst f22
            have f23 := hf 23 (by decide)
            generalize vals 23 = v23 at *
            subst f23
            have f24 := hf 24 (by decide)
            generalize vals 24 = v24 at *
            subst f24
            clear hf
            have hc1 := cellOf hb1
            have hf1 := frozOf hb1
            have hz1 := sizeOf hb1
            try simp at hz1
            go_wp2_with (fail)
            go_ret
            exact ⟨ret_bool (by rw [HB.out (by rw [HV.out, HG.out, H2.out]; rfl)]), by (repeat' (first | exact Below.refl _ _ | assumption | refine Below.setCell ?_ ?_ _ | refine Below.drew ?_ | refine Below.alloc ?_ ?_ _ | refine Below.trans ?_ (Below.mono (by assumption) ?_) | (simp; done) | (simp; omega) | omega))⟩
        have H2 : Hid (decide (y.1 < x.1) = true) := by show _ = _; simpa using hl2
        go_wp2_with (fail)
        refine wp_region_w (n := 25) [] [] (FS52_6_12 q wr x y bx ox k xs.length cap w) rfl (by kernel_rfl) (fun _ _ d _ _ h => by cases d <;> exact h) ?_ ?_ ?_ ?_ ?_ ?_
        · intro iq
          match iq with
          | 0 | 1 | 2 | 3 | 4 | 5 | 6 | 7 | 8 | 9 | 10 | 11 | 12 | 13 | 14 | 15 | 16 | 17 | 18 | 19 | 20 | 21 | 22 | 23 | 24 => exact Stable.const _
          | n + 25 => exact Stable.const _
        · intro iq hi
          exact absurd hi (by simp)
        · intro iq hi
          exact absurd hi (by simp)
        · intro iq o hi hl ho vals w1 hb1 hf
          exact absurd hl (by simp)
        · intro iq o hi hl ho vals w1 hb1 hf
          match iq, hi with
          | 0, _ =>
            injection ho with ho
            subst ho
            clear hl
            simp only [fillA, List.take, List.drop, put_none, Act.put, List.setIfInBounds_toArray, List.set_cons_zero, List.set_cons_succ, Nat.reduceAdd]
            clear hf
            go_wp2_with (fail)
            exact RQ.mk rfl ⟨(by first | rfl | (simp [FS52_6_12]; done) | (simp [FS52_6_12, *]; done) | (simp [FS52_6_12, gotV]; done) | (simp [FS52_6_12, gotV]; omega)), fun h => absurd h (by decide)⟩ (Below.refl _ _)
          | 1, _ =>
            injection ho with ho
            subst ho
            clear hl
            simp only [fillA, List.take, List.drop, put_none, Act.put, List.setIfInBounds_toArray, List.set_cons_zero, List.set_cons_succ, Nat.reduceAdd]
            clear hf
            go_wp2_with (fail)
            exact RQ.mk rfl ⟨(by first | rfl | (simp [FS52_6_12]; done) | (simp [FS52_6_12, *]; done) | (simp [FS52_6_12, gotV]; done) | (simp [FS52_6_12, gotV]; omega)), fun h => absurd h (by decide)⟩ (Below.refl _ _)
          | 2, _ =>
            injection ho with ho
            subst ho
            clear hl
            simp only [fillA, List.take, List.drop, put_none, Act.put, List.setIfInBounds_toArray, List.set_cons_zero, List.set_cons_succ, Nat.reduceAdd]
            clear hf
            go_wp2_with (fail)
            exact RQ.mk rfl ⟨(by first | rfl | (simp [FS52_6_12]; done) | (simp [FS52_6_12, *]; done) | (simp [FS52_6_12, gotV]; done) | (simp [FS52_6_12, gotV]; omega)), fun h => absurd h (by decide)⟩ (Below.refl _ _)
          | 3, _ =>
            injection ho with ho
            subst ho
            clear hl
            simp only [fillA, List.take, List.drop, put_none, Act.put, List.setIfInBounds_toArray, List.set_cons_zero, List.set_cons_succ, Nat.reduceAdd]
            have f1 := hf 1 (by decide) (by kernel_rfl)
            generalize vals 1 = v1 at *
            subst f1
            have f2 := hf 2 (by decide) (by kernel_rfl)
            generalize vals 2 = v2 at *
            subst f2
            clear hf
            go_wp2_with (fail)
            exact RQ.mk rfl ⟨(by first | rfl | (simp [FS52_6_12]; done) | (simp [FS52_6_12, *]; done) | (simp [FS52_6_12, gotV]; done) | (simp [FS52_6_12, gotV]; omega)), fun h => absurd h (by decide)⟩ (Below.refl _ _)
          | 4, _ =>
            injection ho with ho
            subst ho
            clear hl
            simp only [fillA, List.take, List.drop, put_none, Act.put, List.setIfInBounds_toArray, List.set_cons_zero, List.set_cons_succ, Nat.reduceAdd]
            have f3 := hf 3 (by decide) (by kernel_rfl)
            generalize vals 3 = v3 at *
            subst f3
            clear hf
            have hc1 := cellOf hb1
            have hf1 := frozOf hb1
            have hz1 := sizeOf hb1
            try simp at hz1
            go_wp2_with (fail)
            exact RQ.mk rfl ⟨(by first | rfl | (simp [FS52_6_12]; done) | (simp [FS52_6_12, *]; done) | (simp [FS52_6_12, gotV]; done) | (simp [FS52_6_12, gotV]; omega)), fun h => absurd h (by decide)⟩ (Below.refl _ _)
          | 5, _ =>
            injection ho with ho
            subst ho
            clear hl
            simp only [fillA, List.take, List.drop, put_none, Act.put, List.setIfInBounds_toArray, List.set_cons_zero, List.set_cons_succ, Nat.reduceAdd]
            have f0 := hf 0 (by decide) (by kernel_rfl)
            generalize vals 0 = v0 at *
            subst f0
            have f4 := hf 4 (by decide) (by kernel_rfl)
            generalize vals 4 = v4 at *
            subst f4
            clear hf
            have hc1 := cellOf hb1
            have hf1 := frozOf hb1
            have hz1 := sizeOf hb1
            try simp at hz1
            go_wp2_with (first | (go_at_call 79; refine (c_spec_l16One _ _ _ _ _ _ _ (by omega)).mono ?_; rintro e w' ⟨rfl, hb⟩; have hc := cellOf hb; have hf := frozOf hb; have hz := sizeOf hb; try simp at hz))
            exact RQ.mk rfl ⟨(by first | rfl | (simp [FS52_6_12]; done) | (simp [FS52_6_12, *]; done) | (simp [FS52_6_12, gotV]; done) | (simp [FS52_6_12, gotV]; omega)), fun h => absurd h (by decide)⟩ (by (repeat' (first | exact Below.refl _ _ | assumption | refine Below.setCell ?_ ?_ _ | refine Below.drew ?_ | refine Below.alloc ?_ ?_ _ | refine Below.trans ?_ (Below.mono (by assumption) ?_) | (simp; done) | (simp; omega) | omega)))
          | 6, _ =>
            injection ho with ho
            subst ho
            clear hl
            simp only [fillA, List.take, List.drop, put_none, Act.put, List.setIfInBounds_toArray, List.set_cons_zero, List.set_cons_succ, Nat.reduceAdd]
            have f5 := hf 5 (by decide) (by kernel_rfl)
            generalize vals 5 = v5 at *
            subst f5
            clear hf
            go_wp2_with (fail)
            exact RQ.mk rfl ⟨(by first | rfl | (simp [FS52_6_12]; done) | (simp [FS52_6_12, *]; done) | (simp [FS52_6_12, gotV]; done) | (simp [FS52_6_12, gotV]; omega)), fun h => absurd h (by decide)⟩ (Below.refl _ _)
          | 7, _ =>
            injection ho with ho
            subst ho
            clear hl
            simp only [fillA, List.take, List.drop, put_none, Act.put, List.setIfInBounds_toArray, List.set_cons_zero, List.set_cons_succ, Nat.reduceAdd]
            have f6 := hf 6 (by decide) (by kernel_rfl)
            generalize vals 6 = v6 at *
            subst f6
            have f5 := hf 5 (by decide) (by kernel_rfl)
            generalize vals 5 = v5 at *
            subst f5
            clear hf
            go_wp2_with (fail)
            exact RQ.mk rfl ⟨(by first | rfl | (simp [FS52_6_12]; done) | (simp [FS52_6_12, *]; done) | (simp [FS52_6_12, gotV]; done) | (simp [FS52_6_12, gotV]; omega)), fun h => absurd h (by decide)⟩ (Below.refl _ _)
          | 8, _ =>
            injection ho with ho
            subst ho
            clear hl
            simp only [fillA, List.take, List.drop, put_none, Act.put, List.setIfInBounds_toArray, List.set_cons_zero, List.set_cons_succ, Nat.reduceAdd]
            have f7 := hf 7 (by decide) (by kernel_rfl)
            generalize vals 7 = v7 at *
            subst f7
            clear hf
            go_wp2_with (fail)
            exact RQ.mk rfl ⟨(by first | rfl | (simp [FS52_6_12]; done) | (simp [FS52_6_12, *]; done) | (simp [FS52_6_12, gotV]; done) | (simp [FS52_6_12, gotV]; omega)), fun h => absurd h (by decide)⟩ (Below.refl _ _)
          | 9, _ =>
            injection ho with ho
            subst ho
            clear hl
            simp only [fillA, List.take, List.drop, put_none, Act.put, List.setIfInBounds_toArray, List.set_cons_zero, List.set_cons_succ, Nat.reduceAdd]
            have f8 := hf 8 (by decide) (by kernel_rfl)
            generalize vals 8 = v8 at *
            subst f8
            have f7 := hf 7 (by decide) (by kernel_rfl)
            generalize vals 7 = v7 at *
            subst f7
            clear hf
            go_wp2_with (fail)
            exact RQ.mk rfl ⟨(by first | rfl | (simp [FS52_6_12]; done) | (simp [FS52_6_12, *]; done) | (simp [FS52_6_12, gotV]; done) | (simp [FS52_6_12, gotV]; omega)), fun h => absurd h (by decide)⟩ (Below.refl _ _)
          | 10, _ =>
            injection ho with ho
            subst ho
            clear hl
            simp only [fillA, List.take, List.drop, put_none, Act.put, List.setIfInBounds_toArray, List.set_cons_zero, List.set_cons_succ, Nat.reduceAdd]
            have f9 := hf 9 (by decide) (by kernel_rfl)
            generalize vals 9 = v9 at *
            subst f9
            have f7 := hf 7 (by decide) (by kernel_rfl)
            generalize vals 7 = v7 at *
            subst f7
            clear hf
            go_wp2_with (fail)
            exact RQ.mk rfl ⟨(by first | rfl | (simp [FS52_6_12]; done) | (simp [FS52_6_12, *]; done) | (simp [FS52_6_12, gotV]; done) | (simp [FS52_6_12, gotV]; omega)), fun h => absurd h (by decide)⟩ (Below.refl _ _)
          | 11, _ =>
            injection ho with ho
            subst ho
            clear hl
            simp only [fillA, List.take, List.drop, put_none, Act.put, List.setIfInBounds_toArray, List.set_cons_zero, List.set_cons_succ, Nat.reduceAdd]
            have f10 := hf 10 (by decide) (by kernel_rfl)
            generalize vals 10 = v10 at *
            subst f10
            clear hf
            go_wp2_with (fail)
            exact RQ.mk rfl ⟨(by first | rfl | (simp [FS52_6_12]; done) | (simp [FS52_6_12, *]; done) | (simp [FS52_6_12, gotV]; done) | (simp [FS52_6_12, gotV]; omega)), fun h => absurd h (by decide)⟩ (Below.refl _ _)
          | 12, _ =>
            injection ho with ho
            subst ho
            clear hl
            simp only [fillA, List.take, List.drop, put_none, Act.put, List.setIfInBounds_toArray, List.set_cons_zero, List.set_cons_succ, Nat.reduceAdd]
            have f10 := hf 10 (by decide) (by kernel_rfl)
            generalize vals 10 = v10 at *
            subst f10
            clear hf
            go_wp2_with (fail)
            exact RQ.mk rfl ⟨(by first | rfl | (simp [FS52_6_12]; done) | (simp [FS52_6_12, *]; done) | (simp [FS52_6_12, gotV]; done) | (simp [FS52_6_12, gotV]; omega)), fun h => absurd h (by decide)⟩ (Below.refl _ _)
          | 13, _ =>
            injection ho with ho
            subst ho
            clear hl
            simp only [fillA, List.take, List.drop, put_none, Act.put, List.setIfInBounds_toArray, List.set_cons_zero, List.set_cons_succ, Nat.reduceAdd]
            have f12 := hf 12 (by decide) (by kernel_rfl)
            generalize vals 12 = v12 at *
            subst f12
            have f10 := hf 10 (by decide) (by kernel_rfl)
            generalize vals 10 = v10 at *
            subst f10
            clear hf
            go_wp2_with (fail)
            exact RQ.mk rfl ⟨(by first | rfl | (simp [FS52_6_12]; done) | (simp [FS52_6_12, *]; done) | (simp [FS52_6_12, gotV]; done) | (simp [FS52_6_12, gotV]; omega)), fun h => absurd h (by decide)⟩ (Below.refl _ _)
          | 14, _ =>
            injection ho with ho
            subst ho
            clear hl
            simp only [fillA, List.take, List.drop, put_none, Act.put, List.setIfInBounds_toArray, List.set_cons_zero, List.set_cons_succ, Nat.reduceAdd]
            have f11 := hf 11 (by decide) (by kernel_rfl)
            generalize vals 11 = v11 at *
            subst f11
            have f13 := hf 13 (by decide) (by kernel_rfl)
            generalize vals 13 = v13 at *
            subst f13
            have f10 := hf 10 (by decide) (by kernel_rfl)
            generalize vals 10 = v10 at *
            subst f10
            clear hf
            go_wp2_with (fail)
            exact RQ.mk rfl ⟨(by first | rfl | (simp [FS52_6_12]; done) | (simp [FS52_6_12, *]; done) | (simp [FS52_6_12, gotV]; done) | (simp [FS52_6_12, gotV]; omega)), fun h => absurd h (by decide)⟩ (Below.refl _ _)
          | 15, _ =>
            injection ho with ho
            subst ho
            clear hl
            simp only [fillA, List.take, List.drop, put_none, Act.put, List.setIfInBounds_toArray, List.set_cons_zero, List.set_cons_succ, Nat.reduceAdd]
            have f14 := hf 14 (by decide) (by kernel_rfl)
            generalize vals 14 = v14 at *
            subst f14
            have f10 := hf 10 (by decide) (by kernel_rfl)
            generalize vals 10 = v10 at *
            subst f10
            clear hf
            go_wp2_with (fail)
            exact RQ.mk rfl ⟨(by first | rfl | (simp [FS52_6_12]; done) | (simp [FS52_6_12, *]; done) | (simp [FS52_6_12, gotV]; done) | (simp [FS52_6_12, gotV]; omega)), fun h => absurd h (by decide)⟩ (Below.refl _ _)
          | 16, _ =>
            injection ho with ho
            subst ho
            clear hl
            simp only [fillA, List.take, List.drop, put_none, Act.put, List.setIfInBounds_toArray, List.set_cons_zero, List.set_cons_succ, Nat.reduceAdd]
            have f15 := hf 15 (by decide) (by kernel_rfl)
            generalize vals 15 = v15 at *
            subst f15
            have f10 := hf 10 (by decide) (by kernel_rfl)
            generalize vals 10 = v10 at *
            subst f10
            clear hf
            have hc1 := cellOf hb1
            have hf1 := frozOf hb1
            have hz1 := sizeOf hb1
            try simp at hz1
            go_wp2_with (fail)
            exact RQ.mk rfl ⟨(by first | rfl | (simp [FS52_6_12]; done) | (simp [FS52_6_12, *]; done) | (simp [FS52_6_12, gotV]; done) | (simp [FS52_6_12, gotV]; omega)), fun h => absurd h (by decide)⟩ (Below.refl _ _)
          | 17, _ =>
            injection ho with ho
            subst ho
            clear hl
            simp only [fillA, List.take, List.drop, put_none, Act.put, List.setIfInBounds_toArray, List.set_cons_zero, List.set_cons_succ, Nat.reduceAdd]
            have f10 := hf 10 (by decide) (by kernel_rfl)
            generalize vals 10 = v10 at *
            subst f10
            clear hf
            go_wp2_with (fail)
            exact RQ.mk rfl ⟨(by first | rfl | (simp [FS52_6_12]; done) | (simp [FS52_6_12, *]; done) | (simp [FS52_6_12, gotV]; done) | (simp [FS52_6_12, gotV]; omega)), fun h => absurd h (by decide)⟩ (Below.refl _ _)
          | 18, _ =>
            injection ho with ho
            subst ho
            clear hl
            simp only [fillA, List.take, List.drop, put_none, Act.put, List.setIfInBounds_toArray, List.set_cons_zero, List.set_cons_succ, Nat.reduceAdd]
            have f10 := hf 10 (by decide) (by kernel_rfl)
            generalize vals 10 = v10 at *
            subst f10
            clear hf
            go_wp2_with (fail)
            exact RQ.mk rfl ⟨(by first | rfl | (simp [FS52_6_12]; done) | (simp [FS52_6_12, *]; done) | (simp [FS52_6_12, gotV]; done) | (simp [FS52_6_12, gotV]; omega)), fun h => absurd h (by decide)⟩ (Below.refl _ _)
          | 19, _ =>
            injection ho with ho
            subst ho
            clear hl
            simp only [fillA, List.take, List.drop, put_none, Act.put, List.setIfInBounds_toArray, List.set_cons_zero, List.set_cons_succ, Nat.reduceAdd]
            have f17 := hf 17 (by decide) (by kernel_rfl)
            generalize vals 17 = v17 at *
            subst f17
            have f18 := hf 18 (by decide) (by kernel_rfl)
            generalize vals 18 = v18 at *
            subst f18
            have f10 := hf 10 (by decide) (by kernel_rfl)
            generalize vals 10 = v10 at *
            subst f10
            clear hf
            go_wp2_with (fail)
            exact RQ.mk rfl ⟨(by first | rfl | (simp [FS52_6_12]; done) | (simp [FS52_6_12, *]; done) | (simp [FS52_6_12, gotV]; done) | (simp [FS52_6_12, gotV]; omega)), fun h => absurd h (by decide)⟩ (Below.refl _ _)
          | 20, _ =>
            injection ho with ho
            subst ho
            clear hl
            simp only [fillA, List.take, List.drop, put_none, Act.put, List.setIfInBounds_toArray, List.set_cons_zero, List.set_cons_succ, Nat.reduceAdd]
            have f19 := hf 19 (by decide) (by kernel_rfl)
            generalize vals 19 = v19 at *
            subst f19
            have f10 := hf 10 (by decide) (by kernel_rfl)
            generalize vals 10 = v10 at *
            subst f10
            clear hf
            go_wp2_with (fail)
            exact RQ.mk rfl ⟨(by first | rfl | (simp [FS52_6_12]; done) | (simp [FS52_6_12, *]; done) | (simp [FS52_6_12, gotV]; done) | (simp [FS52_6_12, gotV]; omega)), fun h => absurd h (by decide)⟩ (Below.refl _ _)
          | 21, _ =>
            injection ho with ho
            subst ho
            clear hl
            simp only [fillA, List.take, List.drop, put_none, Act.put, List.setIfInBounds_toArray, List.set_cons_zero, List.set_cons_succ, Nat.reduceAdd]
            have f20 := hf 20 (by decide) (by kernel_rfl)
            generalize vals 20 = v20 at *
            subst f20
            have f10 := hf 10 (by decide) (by kernel_rfl)
            generalize vals 10 = v10 at *
            subst f10
            clear hf
            have hc1 := cellOf hb1
            have hf1 := frozOf hb1
            have hz1 := sizeOf hb1
            try simp at hz1
            go_wp2_with (fail)
            exact RQ.mk rfl ⟨(by first | rfl | (simp [FS52_6_12]; done) | (simp [FS52_6_12, *]; done) | (simp [FS52_6_12, gotV]; done) | (simp [FS52_6_12, gotV]; omega)), fun h => absurd h (by decide)⟩ (Below.refl _ _)
          | 22, _ =>
            injection ho with ho
            subst ho
            clear hl
            simp only [fillA, List.take, List.drop, put_none, Act.put, List.setIfInBounds_toArray, List.set_cons_zero, List.set_cons_succ, Nat.reduceAdd]
            have f16 := hf 16 (by decide) (by kernel_rfl)
            generalize vals 16 = v16 at *
            subst f16
            have f21 := hf 21 (by decide) (by kernel_rfl)
            generalize vals 21 = v21 at *
            subst f21
            have f10 := hf 10 (by decide) (by kernel_rfl)
            generalize vals 10 = v10 at *
            subst f10
            clear hf
            go_wp2_with (fail)
            exact RQ.mk rfl ⟨(by first | rfl | (simp [FS52_6_12]; done) | (simp [FS52_6_12, *]; done) | (simp [FS52_6_12, gotV]; done) | (simp [FS52_6_12, gotV]; omega)), fun h => absurd h (by decide)⟩ (Below.refl _ _)
          | 23, _ =>
            injection ho with ho
            subst ho
            clear hl
            simp only [fillA, List.take, List.drop, put_none, Act.put, List.setIfInBounds_toArray, List.set_cons_zero, List.set_cons_succ, Nat.reduceAdd]
            have f10 := hf 10 (by decide) (by kernel_rfl)
            generalize vals 10 = v10 at *
            subst f10
            have f22 := hf 22 (by decide) (by kernel_rfl)
            generalize vals 22 = v22 at *
            subst f22
            have f7 := hf 7 (by decide) (by kernel_rfl)
            generalize vals 7 = v7 at *
            subst f7
            clear hf
            go_wp2_with (fail)
            exact RQ.mk rfl ⟨(by first | rfl | (simp [FS52_6_12]; done) | (simp [FS52_6_12, *]; done) | (simp [FS52_6_12, gotV]; done) | (simp [FS52_6_12, gotV]; omega)), fun h => absurd h (by decide)⟩ (Below.refl _ _)
          | 24, _ =>
            injection ho with ho
            subst ho
            clear hl
            simp only [fillA, List.take, List.drop, put_none, Act.put, List.setIfInBounds_toArray, List.set_cons_zero, List.set_cons_succ, Nat.reduceAdd]
            have f7 := hf 7 (by decide) (by kernel_rfl)
            generalize vals 7 = v7 at *
            subst f7
            have f23 := hf 23 (by decide) (by kernel_rfl)
            generalize vals 23 = v23 at *
            subst f23
            clear hf
            go_wp2_with (fail)
            exact RQ.mk rfl ⟨(by first | rfl | (simp [FS52_6_12]; done) | (simp [FS52_6_12, *]; done) | (simp [FS52_6_12, gotV]; done) | (simp [FS52_6_12, gotV]; omega)), fun h => absurd h (by decide)⟩ (Below.refl _ _)
          | m + 25, h => exact absurd h (by omega)
        · intro vals w1 hb1 hf hd
          simp only [fillA, List.take, List.drop, put_none, Act.put, List.setIfInBounds_toArray, List.set_cons_zero, List.set_cons_succ, Nat.reduceAdd]
          clear hd
          have f0 := hf 0 (by decide)
          generalize vals 0 = v0 at *
          subst f0
          have f1 := hf 1 (by decide)
          generalize vals 1 = v1 at *
          subst f1
          have f2 := hf 2 (by decide)
          generalize vals 2 = v2 at *
          subst f2
          have f3 := hf 3 (by decide)
          generalize vals 3 = v3 at *
          subst f3
          have f4 := hf 4 (by decide)
          generalize vals 4 = v4 at *
          subst f4
          have f5 := hf 5 (by decide)
          generalize vals 5 = v5 at *
          subst f5
          have f6 := hf 6 (by decide)
          generalize vals 6 = v6 at *
          subst f6
          have f7 := hf 7 (by decide)
          generalize vals 7 = v7 at *
          subst f7
          have f8 := hf 8 (by decide)
          generalize vals 8 = v8 at *
          subst f8
          have f9 := hf 9 (by decide)
          generalize vals 9 = v9 at *
          subst f9
          have f10 := hf 10 (by decide)
          generalize vals 10 = v10 at *
          subst f10
          have f11 := hf 11 (by decide)
          generalize vals 11 = v11 at *
          subst f11
          have f12 := hf 12 (by decide)
          generalize vals 12 = v12 at *
          subst f12
          have f13 := hf 13 (by decide)
          generalize vals 13 = v13 at *
          subst f13
          have f14 := hf 14 (by decide)
          generalize vals 14 = v14 at *
          subst f14
          have f15 := hf 15 (by decide)
          generalize vals 15 = v15 at *
          subst f15
          have f16 := hf 16 (by decide)
          generalize vals 16 = v16 at *
          subst f16
          have f17 := hf 17 (by decide)
          generalize vals 17 = v17 at *
          subst f17
          have f18 := hf 18 (by decide)
          generalize vals 18 = v18 at *
          subst f18
          have f19 := hf 19 (by decide)
          generalize vals 19 = v19 at *
          subst f19
          have f20 := hf 20 (by decide)
          generalize vals 20 = v20 at *
          subst f20
          have f21 := hf 21 (by decide)
          generalize vals 21 = v21 at *
          subst f21
          have f22 := hf 22 (by decide)
          generalize vals 22 = v22 at *
          subst f22
          have f23 := hf 23 (by decide)
          generalize vals 23 = v23 at *
          subst f23
          have f24 := hf 24 (by decide)
          generalize vals 24 = v24 at *
          subst f24
          clear hf
          have hc1 := cellOf hb1
          have hf1 := frozOf hb1
          have hz1 := sizeOf hb1
          try simp at hz1
          go_wp2_with (fail)
          clear hy0
          go_loopw [6] (fun i wv => ∃ m : Nat, m ≤ k + 1 ∧ i = .int .i64 m ∧ meets (xs.take m) x.2.1 x.2.2.1 x.2.2.2.1 x.2.2.2.2 = false ∧ Below w.heap.size w wv) (fun i _ => k + 1 - (intOf i).toNat)
          case atStart => exact ⟨0, Nat.zero_le _, rfl, rfl, by (repeat' (first | exact Below.refl _ _ | assumption | refine Below.setCell ?_ ?_ _ | refine Below.drew ?_ | refine Below.alloc ?_ ?_ _ | refine Below.trans ?_ (Below.mono (by assumption) ?_) | (simp; done) | (simp; omega) | omega))⟩
          case round =>
            obtain ⟨m, hm, rfl, hme, hbv⟩ := hrel
            clear hc hf hz
            have hc := cellOf hbv
            have hf := frozOf hbv
            have hz := sizeOf hbv
            have HM := hid hme
            clear hme
            by_cases hmk : m < k + 1
            · have hml : m < xs.length := by omega
              have hz0 := HX.out m hml 0 _ rfl
              have hz1 := HX.out m hml 1 _ rfl
              have hz2 := HX.out m hml 2 _ rfl
              have hz3 := HX.out m hml 3 _ rfl
              have hz4 := HX.out m hml 4 _ rfl
              simp only [Nat.add_zero] at hz0
              have hzb := berOk_bd (berAt_ok hml (HL.out m hmk))
              have HS := hid (meets_snoc xs m hml x.2.1 x.2.2.1 x.2.2.2.1 x.2.2.2.2)
              have HT := hid (fun h => meets_hit (xs := xs) (k := k + 1) (c := x.2.1) (l := x.2.2.1) (f := x.2.2.2.1) (t := x.2.2.2.2) hmk hml h)
              generalize xs[m] = z at *
              go_wp2_with (fail)
              refine wp_region_w (n := 9) [] [] (FS52_11 x z bx ox m k xs.length cap w) rfl (by kernel_rfl) (fun _ _ d _ _ h => by cases d <;> exact h) ?_ ?_ ?_ ?_ ?_ ?_
              · intro iq
                match iq with
                | 0 | 1 | 2 | 3 | 4 | 5 | 6 | 7 | 8 => exact Stable.const _
                | n + 9 => exact Stable.const _
              · intro iq hi
                exact absurd hi (by simp)
              · intro iq hi
                exact absurd hi (by simp)
              · intro iq o hi hl ho vals w1 hb1 hf
                exact absurd hl (by simp)
              · intro iq o hi hl ho vals w1 hb1 hf
                match iq, hi with
                | 0, _ =>
                  injection ho with ho
                  subst ho
                  clear hl
                  simp only [fillA, List.take, List.drop, put_none, Act.put, List.setIfInBounds_toArray, List.set_cons_zero, List.set_cons_succ, Nat.reduceAdd]
                  clear hf
                  go_wp2_with (fail)
                  exact RQ.mk rfl ⟨(by first | rfl | (simp [FS52_11]; done) | (simp [FS52_11, *]; done) | (simp [FS52_11, gotV]; done) | (simp [FS52_11, gotV]; omega)), fun h => absurd h (by decide)⟩ (Below.refl _ _)
                | 1, _ =>
                  injection ho with ho
                  subst ho
                  clear hl
                  simp only [fillA, List.take, List.drop, put_none, Act.put, List.setIfInBounds_toArray, List.set_cons_zero, List.set_cons_succ, Nat.reduceAdd]
                  clear hf
                  go_wp2_with (fail)
                  exact RQ.mk rfl ⟨(by first | rfl | (simp [FS52_11]; done) | (simp [FS52_11, *]; done) | (simp [FS52_11, gotV]; done) | (simp [FS52_11, gotV]; omega)), fun h => absurd h (by decide)⟩ (Below.refl _ _)
                | 2, _ =>
                  injection ho with ho
                  subst ho
                  clear hl
                  simp only [fillA, List.take, List.drop, put_none, Act.put, List.setIfInBounds_toArray, List.set_cons_zero, List.set_cons_succ, Nat.reduceAdd]
                  have f0 := hf 0 (by decide) (by kernel_rfl)
                  generalize vals 0 = v0 at *
                  subst f0
                  have f1 := hf 1 (by decide) (by kernel_rfl)
                  generalize vals 1 = v1 at *
                  subst f1
                  clear hf
                  go_wp2_with (fail)
                  exact RQ.mk rfl ⟨(by first | rfl | (simp [FS52_11]; done) | (simp [FS52_11, *]; done) | (simp [FS52_11, gotV]; done) | (simp [FS52_11, gotV]; omega)), fun h => absurd h (by decide)⟩ (Below.refl _ _)
                | 3, _ =>
                  injection ho with ho
                  subst ho
                  clear hl
                  simp only [fillA, List.take, List.drop, put_none, Act.put, List.setIfInBounds_toArray, List.set_cons_zero, List.set_cons_succ, Nat.reduceAdd]
                  have f2 := hf 2 (by decide) (by kernel_rfl)
                  generalize vals 2 = v2 at *
                  subst f2
                  clear hf
                  have hc1 := cellOf hb1
                  have hf1 := frozOf hb1
                  have hz1 := sizeOf hb1
                  try simp at hz1
                  go_wp2_with (fail)
                  exact RQ.mk rfl ⟨(by first | rfl | (simp [FS52_11]; done) | (simp [FS52_11, *]; done) | (simp [FS52_11, gotV]; done) | (simp [FS52_11, gotV]; omega)), fun h => absurd h (by decide)⟩ (Below.refl _ _)
                | 4, _ =>
                  injection ho with ho
                  subst ho
                  clear hl
                  simp only [fillA, List.take, List.drop, put_none, Act.put, List.setIfInBounds_toArray, List.set_cons_zero, List.set_cons_succ, Nat.reduceAdd]
                  clear hf
                  go_wp2_with (fail)
                  exact RQ.mk rfl ⟨(by first | rfl | (simp [FS52_11]; done) | (simp [FS52_11, *]; done) | (simp [FS52_11, gotV]; done) | (simp [FS52_11, gotV]; omega)), fun h => absurd h (by decide)⟩ (Below.refl _ _)
                | 5, _ =>
                  injection ho with ho
                  subst ho
                  clear hl
                  simp only [fillA, List.take, List.drop, put_none, Act.put, List.setIfInBounds_toArray, List.set_cons_zero, List.set_cons_succ, Nat.reduceAdd]
                  clear hf
                  go_wp2_with (fail)
                  exact RQ.mk rfl ⟨(by first | rfl | (simp [FS52_11]; done) | (simp [FS52_11, *]; done) | (simp [FS52_11, gotV]; done) | (simp [FS52_11, gotV]; omega)), fun h => absurd h (by decide)⟩ (Below.refl _ _)
                | 6, _ =>
                  injection ho with ho
                  subst ho
                  clear hl
                  simp only [fillA, List.take, List.drop, put_none, Act.put, List.setIfInBounds_toArray, List.set_cons_zero, List.set_cons_succ, Nat.reduceAdd]
                  have f4 := hf 4 (by decide) (by kernel_rfl)
                  generalize vals 4 = v4 at *
                  subst f4
                  have f5 := hf 5 (by decide) (by kernel_rfl)
                  generalize vals 5 = v5 at *
                  subst f5
                  clear hf
                  go_wp2_with (fail)
                  exact RQ.mk rfl ⟨(by first | rfl | (simp [FS52_11]; done) | (simp [FS52_11, *]; done) | (simp [FS52_11, gotV]; done) | (simp [FS52_11, gotV]; omega)), fun h => absurd h (by decide)⟩ (Below.refl _ _)
                | 7, _ =>
                  injection ho with ho
                  subst ho
                  clear hl
                  simp only [fillA, List.take, List.drop, put_none, Act.put, List.setIfInBounds_toArray, List.set_cons_zero, List.set_cons_succ, Nat.reduceAdd]
                  have f6 := hf 6 (by decide) (by kernel_rfl)
                  generalize vals 6 = v6 at *
                  subst f6
                  clear hf
                  have hc1 := cellOf hb1
                  have hf1 := frozOf hb1
                  have hz1 := sizeOf hb1
                  try simp at hz1
                  go_wp2_with (fail)
                  exact RQ.mk rfl ⟨(by first | rfl | (simp [FS52_11]; done) | (simp [FS52_11, *]; done) | (simp [FS52_11, gotV]; done) | (simp [FS52_11, gotV]; omega)), fun h => absurd h (by decide)⟩ (Below.refl _ _)
                | 8, _ =>
                  injection ho with ho
                  subst ho
                  clear hl
                  simp only [fillA, List.take, List.drop, put_none, Act.put, List.setIfInBounds_toArray, List.set_cons_zero, List.set_cons_succ, Nat.reduceAdd]
                  have f3 := hf 3 (by decide) (by kernel_rfl)
                  generalize vals 3 = v3 at *
                  subst f3
                  have f7 := hf 7 (by decide) (by kernel_rfl)
                  generalize vals 7 = v7 at *
                  subst f7
                  clear hf
                  have hc1 := cellOf hb1
                  have hf1 := frozOf hb1
                  have hz1 := sizeOf hb1
                  try simp at hz1
                  go_wp2_with (first | (go_at_call 80; refine (c_spec_l16Clash _ _ _ _ _ _ _ _ _ _ _ (by omega) (by omega) (by omega) (by omega) (by omega) (by omega) (by omega) (by omega)).mono ?_; rintro e w' ⟨rfl, hb⟩; have hc := cellOf hb; have hf := frozOf hb; have hz := sizeOf hb; try simp at hz))
                  exact RQ.mk rfl ⟨(by first | rfl | (simp [FS52_11]; done) | (simp [FS52_11, *]; done) | (simp [FS52_11, gotV]; done) | (simp [FS52_11, gotV]; omega)), fun h => absurd h (by decide)⟩ (by (repeat' (first | exact Below.refl _ _ | assumption | refine Below.setCell ?_ ?_ _ | refine Below.drew ?_ | refine Below.alloc ?_ ?_ _ | refine Below.trans ?_ (Below.mono (by assumption) ?_) | (simp; done) | (simp; omega) | omega)))
              · intro vals w1 hb1 hf hd
                simp only [fillA, List.take, List.drop, put_none, Act.put, List.setIfInBounds_toArray, List.set_cons_zero, List.set_cons_succ, Nat.reduceAdd]
                clear hd
                have f0 := hf 0 (by decide)
                generalize vals 0 = v0 at *
                subst f0
                have f1 := hf 1 (by decide)
                generalize vals 1 = v1 at *
                subst f1
                have f2 := hf 2 (by decide)
                generalize vals 2 = v2 at *
                subst f2
                have f3 := hf 3 (by decide)
                generalize vals 3 = v3 at *
                subst f3
                have f4 := hf 4 (by decide)
                generalize vals 4 = v4 at *
                subst f4
                have f5 := hf 5 (by decide)
                generalize vals 5 = v5 at *
                subst f5
                have f6 := hf 6 (by decide)
                generalize vals 6 = v6 at *
                subst f6
                have f7 := hf 7 (by decide)
                generalize vals 7 = v7 at *
                subst f7
                have f8 := hf 8 (by decide)
                generalize vals 8 = v8 at *
                subst f8
                clear hf
                have hc1 := cellOf hb1
                have hf1 := frozOf hb1
                have hz1 := sizeOf hb1
                try simp at hz1
                by_cases hcl : crash x.2.1 x.2.2.1 x.2.2.2.1 x.2.2.2.2 z = true
                · have HC := hid (HT.out hcl)
                  simp only [crash] at hcl
                  simp only [hcl]
                  go_wp2_with (fail)
                  go_ret
                  exact ⟨ret_bool (by rw [HB.out (by rw [HV.out, HC.out] <;> simp)]), by (repeat' (first | exact Below.refl _ _ | assumption | refine Below.setCell ?_ ?_ _ | refine Below.drew ?_ | refine Below.alloc ?_ ?_ _ | refine Below.trans ?_ (Below.mono (by assumption) ?_) | (simp; done) | (simp; omega) | omega))⟩
                · have hcl' : crash x.2.1 x.2.2.1 x.2.2.2.1 x.2.2.2.2 z = false := by simpa using hcl
                  have HC := hid (HS.out.trans (by rw [HM.out, hcl']))
                  clear hcl
                  simp only [crash] at hcl'
                  simp only [hcl']
                  go_wp2_with (fail)
                  go_roundw
                  case rel => exact ⟨m + 1, by omega, by go_num, HC.out, by (repeat' (first | exact Below.refl _ _ | assumption | refine Below.setCell ?_ ?_ _ | refine Below.drew ?_ | refine Below.alloc ?_ ?_ _ | refine Below.trans ?_ (Below.mono (by assumption) ?_) | (simp; done) | (simp; omega) | omega))⟩
                  case measure => simp [intOf]; omega
            · obtain rfl : m = k + 1 := by omega
              go_wp2_with (fail)
              go_roundw
              case rel =>
                refine ⟨k + 2, by omega, by omega, by go_num, fun j hj => ?_, by (repeat' (first | exact Below.refl _ _ | assumption | refine Below.setCell ?_ ?_ _ | refine Below.drew ?_ | refine Below.alloc ?_ ?_ _ | refine Below.trans ?_ (Below.mono (by assumption) ?_) | (simp; done) | (simp; omega) | omega))⟩
                rcases Nat.lt_or_ge j (k + 1) with h | h
                · exact HL.out j h
                · obtain rfl : j = k + 1 := by omega
                  rw [HV.out, HG.out, H2.out, HM.out]; rfl
              case measure => simp [intOf]; omega
    · by_cases hle : k < xs.length
      · have HD := hid (berV_long (q := q) (xs := xs) (by omega))
        clear hl
        go_wp2_with (fail)
        go_ret
        exact ⟨ret_bool (by rw [HD.out]; simp; try omega), by (repeat' (first | exact Below.refl _ _ | assumption | refine Below.setCell ?_ ?_ _ | refine Below.drew ?_ | refine Below.alloc ?_ ?_ _ | refine Below.trans ?_ (Below.mono (by assumption) ?_) | (simp; done) | (simp; omega) | omega))⟩
      · obtain rfl : k = xs.length := by omega
        have HD := hid (berV_all hq hl)
        go_wp2_with (fail)
        all_goals go_ret
        all_goals exact ⟨ret_bool (by rw [HD.out]; simp; try omega), by (repeat' (first | exact Below.refl _ _ | assumption | refine Below.setCell ?_ ?_ _ | refine Below.drew ?_ | refine Below.alloc ?_ ?_ _ | refine Below.trans ?_ (Below.mono (by assumption) ?_) | (simp; done) | (simp; omega) | omega))⟩

end Go.Proofs.Ytfipmalomhflgaa
namespace Go.Proofs.Ytfipmalomhflgaa
set_option linter.unusedSimpArgs false
set_option linter.unusedVariables false
open Go.RowKit

theorem CurS.new {w W : World} {g cap : Nat} {A : Option Addr} {cs : List Int} {T : TypeId} (hr : Rds cB 1 w A cs) (hb : Below w.heap.size w W) (hg : g = W.heap.size) : CurS (W.alloc (.cells #[.slice A cs.length cap, .int .i64 0, .int .u64 0] T)) g A cs cap 0 := by
  subst hg
  have hh := heap_alloc_new W (.cells #[.slice A cs.length cap, .int .i64 0, .int .u64 0] T)
  have hc : ∀ o, (W.alloc (.cells #[.slice A cs.length cap, .int .i64 0, .int .u64 0] T)).cell? ⟨W.heap.size, o, none⟩ = (#[Value.slice A cs.length cap, .int .i64 0, .int .u64 0] : Array Value)[o]? := fun o => Fresh.cell hh o
  refine ⟨⟨by simp, by rw [hc]; rfl, ⟨0, by omega, by omega, by rw [hc]; rfl⟩, ⟨0, by rw [hc]; rfl⟩, fun o => Fresh.froz hh o⟩, ?_⟩
  intro i x hx
  obtain ⟨b, off, hA, hlt, hcc⟩ := hr i x hx
  have hs := hb.size
  refine ⟨b, off, hA, by omega, fun j v hv => ?_⟩
  have h2 : Below w.heap.size w (W.alloc (.cells #[.slice A cs.length cap, .int .i64 0, .int .u64 0] T)) := hb.alloc (by omega) _
  exact (h2.cell (p := ⟨b, off + i * 1 + j, none⟩) hlt).trans (hcc j v hv)
theorem below_row {B b : Nat} {a w w' : World} (h : Below B a w) (hg : w.grownBy w' (some b)) (hb : B ≤ b) (hB : B ≤ w.heap.size) : Below B a w' := h.grown hg hB fun k hk => by cases hk; exact hb

end Go.Proofs.Ytfipmalomhflgaa
namespace Go.Proofs.Ytfipmalomhflgaa
set_option linter.unusedSimpArgs false
set_option linter.unusedVariables false
open Go.RowKit

set_option maxHeartbeats 2000000 in
theorem c_impl_isBerth (q i c l f t : Int) (w : World) (hq : 1 ≤ q ∧ q ≤ 20) :
    Calls Try.prog 54 #[.int .i64 (q), .agg #[.int .i64 (i), .int .i64 (c), .int .i64 (l), .int .i64 (f), .int .i64 (t)]] w fun e w' => e = .returned (.bool (berB q i c l f t)) ∧ Below w.heap.size w w' := by
  by_cases hs0 : inB i 1 99 = true
  rotate_left
  · have hn : inB i 1 99 = false := Bool.eq_false_iff.2 hs0
    clear hs0
    go_enter Try.func54, Try.ntmps54
    go_wp2_with (first | (go_at_call 53; refine (c_impl_inside _ _ _ _ ).mono ?_; rintro e w' ⟨rfl, hb⟩; have hc := cellOf hb; have hf := frozOf hb; have hz := sizeOf hb; try simp at hz))
    all_goals go_ret
    all_goals
      refine ⟨ret_bool ?_, ?_⟩
      · first | rfl | omega | (simp [berB, inB, hn]; done) | (simp [berB, inB, hn]; omega) | (simp [berB, inB, hn]; (repeat' split) <;> (first | omega | (simp; done) | (simp; omega))) | (simp_all [berB, inB]; done) | (simp_all [berB, inB]; omega)
      · (repeat' (first | exact Below.refl _ _ | assumption | refine Below.setCell ?_ ?_ _ | refine Below.drew ?_ | refine Below.alloc ?_ ?_ _ | refine Below.trans ?_ (Below.mono (by assumption) ?_) | (simp; done) | (simp; omega) | omega))
  have hbd0 := inB_bd hs0
  by_cases hs1 : inB c 0 (q - 1) = true
  rotate_left
  · have hn : inB c 0 (q - 1) = false := Bool.eq_false_iff.2 hs1
    clear hs1
    go_enter Try.func54, Try.ntmps54
    go_wp2_with (first | (go_at_call 53; refine (c_impl_inside _ _ _ _ ).mono ?_; rintro e w' ⟨rfl, hb⟩; have hc := cellOf hb; have hf := frozOf hb; have hz := sizeOf hb; try simp at hz))
    all_goals go_ret
    all_goals
      refine ⟨ret_bool ?_, ?_⟩
      · first | rfl | omega | (simp [berB, inB, hs0, hn]; done) | (simp [berB, inB, hs0, hn]; omega) | (simp [berB, inB, hs0, hn]; (repeat' split) <;> (first | omega | (simp; done) | (simp; omega))) | (simp_all [berB, inB]; done) | (simp_all [berB, inB]; omega)
      · (repeat' (first | exact Below.refl _ _ | assumption | refine Below.setCell ?_ ?_ _ | refine Below.drew ?_ | refine Below.alloc ?_ ?_ _ | refine Below.trans ?_ (Below.mono (by assumption) ?_) | (simp; done) | (simp; omega) | omega))
  have hbd1 := inB_bd hs1
  by_cases hs2 : inB l 1 (q - c) = true
  rotate_left
  · have hn : inB l 1 (q - c) = false := Bool.eq_false_iff.2 hs2
    clear hs2
    go_enter Try.func54, Try.ntmps54
    go_wp2_with (first | (go_at_call 53; refine (c_impl_inside _ _ _ _ ).mono ?_; rintro e w' ⟨rfl, hb⟩; have hc := cellOf hb; have hf := frozOf hb; have hz := sizeOf hb; try simp at hz))
    all_goals go_ret
    all_goals
      refine ⟨ret_bool ?_, ?_⟩
      · first | rfl | omega | (simp [berB, inB, hs0, hs1, hn]; done) | (simp [berB, inB, hs0, hs1, hn]; omega) | (simp [berB, inB, hs0, hs1, hn]; (repeat' split) <;> (first | omega | (simp; done) | (simp; omega))) | (simp_all [berB, inB]; done) | (simp_all [berB, inB]; omega)
      · (repeat' (first | exact Below.refl _ _ | assumption | refine Below.setCell ?_ ?_ _ | refine Below.drew ?_ | refine Below.alloc ?_ ?_ _ | refine Below.trans ?_ (Below.mono (by assumption) ?_) | (simp; done) | (simp; omega) | omega))
  have hbd2 := inB_bd hs2
  go_enter Try.func54, Try.ntmps54
  go_wp2_with (first | (go_at_call 53; refine (c_impl_inside _ _ _ _ ).mono ?_; rintro e w' ⟨rfl, hb⟩; have hc := cellOf hb; have hf := frozOf hb; have hz := sizeOf hb; try simp at hz))
  all_goals go_ret
  all_goals
    refine ⟨ret_bool ?_, ?_⟩
    · first | rfl | omega | (simp [berB, inB, hs0, hs1, hs2]; done) | (simp [berB, inB, hs0, hs1, hs2]; omega) | (simp [berB, inB, hs0, hs1, hs2]; (repeat' split) <;> (first | omega | (simp; done) | (simp; omega))) | (simp_all [berB, inB]; done) | (simp_all [berB, inB]; omega)
    · (repeat' (first | exact Below.refl _ _ | assumption | refine Below.setCell ?_ ?_ _ | refine Below.drew ?_ | refine Below.alloc ?_ ?_ _ | refine Below.trans ?_ (Below.mono (by assumption) ?_) | (simp; done) | (simp; omega) | omega))

end Go.Proofs.Ytfipmalomhflgaa
namespace Go.Proofs.Ytfipmalomhflgaa
set_option linter.unusedSimpArgs false
set_option linter.unusedVariables false
open Go.RowKit

set_option maxHeartbeats 2000000 in
theorem c_impl_meetsAny_1 (i c l f t i' c' l' f' t' : Int) (bp : Nat) (w : World) (hbp0 : w.cell? ⟨bp, 0, none⟩ = some (.int .i64 (i'))) (hbp1 : w.cell? ⟨bp, 1, none⟩ = some (.int .i64 (c'))) (hbp2 : w.cell? ⟨bp, 2, none⟩ = some (.int .i64 (l'))) (hbp3 : w.cell? ⟨bp, 3, none⟩ = some (.int .i64 (f'))) (hbp4 : w.cell? ⟨bp, 4, none⟩ = some (.int .i64 (t'))) (hlbp : bp < w.heap.size) (hb0 : -9999 ≤ c ∧ c ≤ 9999) (hb1 : -9999 ≤ l ∧ l ≤ 9999) (hb2 : -9999 ≤ f ∧ f ≤ 9999) (hb3 : -9999 ≤ t ∧ t ≤ 9999) (hb4 : -9999 ≤ c' ∧ c' ≤ 9999) (hb5 : -9999 ≤ l' ∧ l' ≤ 9999) (hb6 : -9999 ≤ f' ∧ f' ≤ 9999) (hb7 : -9999 ≤ t' ∧ t' ≤ 9999) (hp1 : 1 ≤ l ∧ f < t) (hp2 : 1 ≤ l' ∧ f' < t') :
    Calls Try.prog 82 #[.agg #[.int .i64 (i), .int .i64 (c), .int .i64 (l), .int .i64 (f), .int .i64 (t)], .pointer (some ⟨bp, 0, none⟩)] w fun e w' => e = .returned (.bool (crashB c l f t c' l' f' t')) ∧ Below w.heap.size w w' := by
  go_enter Try.func82, Try.ntmps82
  go_wp2
  all_goals go_ret
  all_goals
    refine ⟨ret_bool ?_, ?_⟩
    · first | rfl | omega | (simp [crashB]; done) | (simp [crashB]; omega) | (simp [crashB]; (repeat' split) <;> (first | omega | (simp; done) | (simp; omega))) | (simp_all [crashB]; done) | (simp_all [crashB]; omega)
    · (repeat' (first | exact Below.refl _ _ | assumption | refine Below.setCell ?_ ?_ _ | refine Below.drew ?_ | refine Below.alloc ?_ ?_ _ | refine Below.trans ?_ (Below.mono (by assumption) ?_) | (simp; done) | (simp; omega) | omega))

end Go.Proofs.Ytfipmalomhflgaa
namespace Go.Proofs.Ytfipmalomhflgaa
set_option linter.unusedSimpArgs false
set_option linter.unusedVariables false
open Go.RowKit

set_option maxHeartbeats 2000000 in
theorem c_idx_meets (A : Option Addr) (xs : List (Int × Int × Int × Int × Int)) (cap : Nat) (i c l f t : Int) (bp : Nat) (w : World) (h0 : Rds cBer 5 w A xs) (hn : xs.length ≤ 9223372036854775807) (hbp0 : w.cell? ⟨bp, 0, none⟩ = some (.int .i64 (i))) (hbp1 : w.cell? ⟨bp, 1, none⟩ = some (.int .i64 (c))) (hbp2 : w.cell? ⟨bp, 2, none⟩ = some (.int .i64 (l))) (hbp3 : w.cell? ⟨bp, 3, none⟩ = some (.int .i64 (f))) (hbp4 : w.cell? ⟨bp, 4, none⟩ = some (.int .i64 (t))) (hlbp : bp < w.heap.size) (hok : ∀ k (hk : k < xs.length), berP xs[k]) (hab : 0 ≤ c ∧ c ≤ 20 ∧ 1 ≤ l ∧ l ≤ 20 ∧ 0 ≤ f ∧ f < t ∧ t ≤ 500) :
    Calls Try.prog 62 #[.slice A xs.length cap, .func (.func 82) #[] #[.pointer (some ⟨bp, 0, none⟩)]] w fun e w' => e = .returned (.int .i64 (idxF (crash c l f t) xs)) ∧ Below w.heap.size w w' := by
  go_enter Try.func62, Try.ntmps62
  go_wp2_with (fail)
  go_loopw [5, 8] (fun _ i wr => ∃ k : Nat, k ≤ xs.length ∧ i = .int .i64 k ∧ (xs.take k).any (crash c l f t) = false ∧ Below w.heap.size w wr) (fun _ i _ => xs.length - (intOf i).toNat)
  case atStart => exact ⟨0, Nat.zero_le _, rfl, rfl, Below.refl _ _⟩
  case round =>
    obtain ⟨k, hk, rfl, hl, hbr⟩ := hrel
    have HT := hid hl
    clear hl
    by_cases hlt : k < xs.length
    · obtain ⟨bx, ox, rfl, hbx, hcx⟩ := h0 k xs[k] (List.getElem?_eq_getElem hlt)
      have hx0 := hcx 0 _ rfl
      have hx1 := hcx 1 _ rfl
      have hx2 := hcx 2 _ rfl
      have hx3 := hcx 3 _ rfl
      have hx4 := hcx 4 _ rfl
      simp only [Nat.add_zero] at hx0
      clear hcx h0
      have hbx := hok k hlt
      clear hok
      have HS := hid (any_snoc (crash c l f t) xs k hlt)
      have HH := hid (fun hp => idxF_hit (p := (crash c l f t)) (xs := xs) HT.out hlt hp)
      obtain ⟨x, hxk⟩ : ∃ x, x = xs[k] := ⟨_, rfl⟩
      simp only [← hxk] at hx0 hx1 hx2 hx3 hx4 HS HH hbx
      clear hxk
      have hc := cellOf hbr
      have hf := frozOf hbr
      have hz := sizeOf hbr
      have mbp0 : wr.cell? ⟨bp, 0, none⟩ = some (.int .i64 (i)) := by rw [hc, if_pos hlbp]; exact hbp0
      have mbp1 : wr.cell? ⟨bp, 1, none⟩ = some (.int .i64 (c)) := by rw [hc, if_pos hlbp]; exact hbp1
      have mbp2 : wr.cell? ⟨bp, 2, none⟩ = some (.int .i64 (l)) := by rw [hc, if_pos hlbp]; exact hbp2
      have mbp3 : wr.cell? ⟨bp, 3, none⟩ = some (.int .i64 (f)) := by rw [hc, if_pos hlbp]; exact hbp3
      have mbp4 : wr.cell? ⟨bp, 4, none⟩ = some (.int .i64 (t)) := by rw [hc, if_pos hlbp]; exact hbp4
      have mlbp : bp < wr.heap.size := by omega
      unfold berP at hbx
      by_cases hp : (crash c l f t) x = true
      · have HP := hid hp
        have hp' := hp
        simp only [crash] at hp'
        clear hp
        go_wp2_with (go_at_call 82; refine (c_impl_meetsAny_1 _ _ _ _ _ i c l f t bp _ mbp0 mbp1 mbp2 mbp3 mbp4 mlbp (by omega) (by omega) (by omega) (by omega) (by omega) (by omega) (by omega) (by omega) (by omega) (by omega)).mono ?_; rintro e w2 ⟨rfl, hb2⟩)
        go_ret
        exact ⟨ret_int (HH.out HP.out).symm, by (repeat' (first | exact Below.refl _ _ | assumption | refine Below.setCell ?_ ?_ _ | refine Below.drew ?_ | refine Below.alloc ?_ ?_ _ | refine Below.trans ?_ (Below.mono (by assumption) ?_) | (simp; done) | (simp; omega) | omega))⟩
      · have HP : Hid ((crash c l f t) x = false) := by show _ = _; simpa using hp
        have hp' := HP.out
        simp only [crash] at hp'
        clear hp
        go_wp2_with (go_at_call 82; refine (c_impl_meetsAny_1 _ _ _ _ _ i c l f t bp _ mbp0 mbp1 mbp2 mbp3 mbp4 mlbp (by omega) (by omega) (by omega) (by omega) (by omega) (by omega) (by omega) (by omega) (by omega) (by omega)).mono ?_; rintro e w2 ⟨rfl, hb2⟩)
        go_roundw
        case rel => exact ⟨k + 1, by omega, by go_num, by rw [HS.out, HT.out, HP.out]; rfl, by (repeat' (first | exact Below.refl _ _ | assumption | refine Below.setCell ?_ ?_ _ | refine Below.drew ?_ | refine Below.alloc ?_ ?_ _ | refine Below.trans ?_ (Below.mono (by assumption) ?_) | (simp; done) | (simp; omega) | omega))⟩
        case measure => simp [intOf]; omega
    · obtain rfl : k = xs.length := by omega
      have HN := hid (idxF_none (p := (crash c l f t)) (xs := xs) (by have := HT.out; rwa [List.take_length] at this))
      go_wp2_with (fail)
      go_ret
      exact ⟨ret_int HN.out.symm, by (repeat' (first | exact Below.refl _ _ | assumption | refine Below.setCell ?_ ?_ _ | refine Below.drew ?_ | refine Below.alloc ?_ ?_ _ | refine Below.trans ?_ (Below.mono (by assumption) ?_) | (simp; done) | (simp; omega) | omega))⟩

set_option maxHeartbeats 2000000 in
theorem c_has_meets (A : Option Addr) (xs : List (Int × Int × Int × Int × Int)) (cap : Nat) (i c l f t : Int) (bp : Nat) (w : World) (h0 : Rds cBer 5 w A xs) (hn : xs.length ≤ 9223372036854775807) (hbp0 : w.cell? ⟨bp, 0, none⟩ = some (.int .i64 (i))) (hbp1 : w.cell? ⟨bp, 1, none⟩ = some (.int .i64 (c))) (hbp2 : w.cell? ⟨bp, 2, none⟩ = some (.int .i64 (l))) (hbp3 : w.cell? ⟨bp, 3, none⟩ = some (.int .i64 (f))) (hbp4 : w.cell? ⟨bp, 4, none⟩ = some (.int .i64 (t))) (hlbp : bp < w.heap.size) (hok : ∀ k (hk : k < xs.length), berP xs[k]) (hab : 0 ≤ c ∧ c ≤ 20 ∧ 1 ≤ l ∧ l ≤ 20 ∧ 0 ≤ f ∧ f < t ∧ t ≤ 500) :
    Calls Try.prog 81 #[.slice A xs.length cap, .func (.func 82) #[] #[.pointer (some ⟨bp, 0, none⟩)]] w fun e w' => e = .returned (.bool (xs.any (crash c l f t))) ∧ Below w.heap.size w w' := by
  go_enter Try.func81, Try.ntmps81
  go_wp2_with (go_at_call 62; refine (c_idx_meets _ _ _ _ _ _ _ _ _ _ (by assumption) (by assumption) (by assumption) (by assumption) (by assumption) (by assumption) (by assumption) (by assumption) (by assumption) (by assumption)).mono ?_; rintro e w' ⟨rfl, hb⟩)
  all_goals go_ret
  all_goals exact ⟨ret_bool (by rw [← idxF_any]; simp), by (repeat' (first | exact Below.refl _ _ | assumption | refine Below.setCell ?_ ?_ _ | refine Below.drew ?_ | refine Below.alloc ?_ ?_ _ | refine Below.trans ?_ (Below.mono (by assumption) ?_) | (simp; done) | (simp; omega) | omega))⟩

set_option maxHeartbeats 2000000 in
theorem c_impl_meetsAny (A : Option Addr) (xs : List (Int × Int × Int × Int × Int)) (n cap : Nat) (i c l f t : Int) (w : World) (hx : Rds cBer 5 w A xs) (hl : xs.length = n) (hn : xs.length ≤ 9223372036854775807) (hok : ∀ k (hk : k < xs.length), berP xs[k]) (hab : 0 ≤ c ∧ c ≤ 20 ∧ 1 ≤ l ∧ l ≤ 20 ∧ 0 ≤ f ∧ f < t ∧ t ≤ 500) :
    Calls Try.prog 55 #[.slice A n cap, .agg #[.int .i64 i, .int .i64 c, .int .i64 l, .int .i64 f, .int .i64 t]] w fun e w' => e = .returned (.bool (meets xs c l f t)) ∧ Below w.heap.size w w' := by
  subst hl
  have hx' := hx.below ((Below.refl w.heap.size w).alloc (Nat.le_refl _) (.cells #[.int .i64 i, .int .i64 c, .int .i64 l, .int .i64 f, .int .i64 t] 48))
  go_enter Try.func55, Try.ntmps55
  go_wp2_with (go_at_call 81; refine (c_has_meets _ _ _ i c l f t w.heap.size _ hx' (by omega) (by simp [go_sem]) (by simp [go_sem]) (by simp [go_sem]) (by simp [go_sem]) (by simp [go_sem]) (by simp) hok hab).mono ?_; rintro e w' ⟨rfl, hb⟩)
  all_goals go_ret
  all_goals exact ⟨rfl, by (repeat' (first | exact Below.refl _ _ | assumption | refine Below.setCell ?_ ?_ _ | refine Below.drew ?_ | refine Below.alloc ?_ ?_ _ | refine Below.trans ?_ (Below.mono (by assumption) ?_) | (simp; done) | (simp; omega) | omega))⟩

theorem Rds.take {α : Type} {cf : α → List Value} {sz : Nat} {w : World} {A : Option Addr} {xs : List α} (h : Rds cf sz w A xs) (k : Nat) : Rds cf sz w A (xs.take k) := by
  intro i x hx
  refine h i x ?_
  rw [List.getElem?_take] at hx
  split at hx
  · exact hx
  · cases hx

end Go.Proofs.Ytfipmalomhflgaa
namespace Go.Proofs.Ytfipmalomhflgaa
set_option linter.unusedSimpArgs false
set_option linter.unusedVariables false
open Go.RowKit

set_option maxHeartbeats 400000 in
theorem c_impl_isFree (A : Option Addr) (xs : List (Int × Int × Int × Int × Int)) (cap : Nat) (c h : Int) (w : World) (hx : Rds cBer 5 w A xs) (hn : xs.length ≤ 9223372036854775807) (hok : ∀ k (hk : k < xs.length), berP xs[k]) (hab : 0 ≤ c ∧ c ≤ 20 ∧ 0 ≤ h ∧ h ≤ 499) :
    Calls Try.prog 61 #[.slice A xs.length cap, .int .i64 c, .int .i64 h] w fun e w' => e = .returned (.bool (freeAt xs c h)) ∧ Below w.heap.size w w' := by
  go_enter Try.func61, Try.ntmps61
  go_wp2_with (first | (go_at_call 55; refine (c_impl_meetsAny _ xs _ _ _ _ _ _ _ _ (by first | assumption | exact Rds.below hx (by (repeat' (first | exact Below.refl _ _ | assumption | refine Below.setCell ?_ ?_ _ | refine Below.drew ?_ | refine Below.alloc ?_ ?_ _ | refine Below.trans ?_ (Below.mono (by assumption) ?_) | (simp; done) | (simp; omega) | omega)))) rfl (by omega) hok (by omega)).mono ?_; rintro e w' ⟨rfl, hb⟩; have hc := cellOf hb; have hf := frozOf hb; have hz := sizeOf hb; try simp at hz))
  all_goals go_ret
  all_goals
    refine ⟨ret_bool ?_, ?_⟩
    · first | rfl | omega | (simp [freeAt]; done) | (simp [freeAt]; omega) | (simp [freeAt]; (repeat' split) <;> (first | omega | (simp; done) | (simp; omega))) | (simp_all [freeAt]; done) | (simp_all [freeAt]; omega)
    · (repeat' (first | exact Below.refl _ _ | assumption | refine Below.setCell ?_ ?_ _ | refine Below.drew ?_ | refine Below.alloc ?_ ?_ _ | refine Below.trans ?_ (Below.mono (by assumption) ?_) | (simp; done) | (simp; omega) | omega))

end Go.Proofs.Ytfipmalomhflgaa
