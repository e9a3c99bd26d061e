import Derived.Test.YteciijnpfapmhaaBase
import Derived.Maps.AppendAt
namespace Go.Proofs.Yteciijnpfapmhaa
set_option linter.unusedSimpArgs false
set_option linter.unusedVariables false
open Go.RowKit

/-- A slice that reads as a list, element by element: 'cf' gives an element's cells, 'sz' of them. -/
def Rds {α : Type} (cf : α → List Value) (sz : Nat) (w : World) (A : Option Addr) (xs : List α) : Prop :=
  ∀ i x, xs[i]? = some x → ∃ b off, A = some ⟨b, off, none⟩ ∧ b < w.heap.size ∧ ∀ j v, (cf x)[j]? = some v → w.cell? ⟨b, off + i * sz + j, none⟩ = some v
/-- Block g is a row of the call's own, of 'cap' elements, whose first ones are xs. -/
def OwnS {α : Type} (cf : α → List Value) (sz : Nat) (T : TypeId) (w : World) (g cap : Nat) (xs : List α) : Prop :=
  ∃ cur : Array Value, w.heap[g]? = some (.cells cur T (0, 0)) ∧ cur.size = cap * sz ∧ xs.length ≤ cap ∧ cap ≤ maxLen ∧ ∀ i x, xs[i]? = some x → ∀ j v, (cf x)[j]? = some v → cur[i * sz + j]? = some v
/-- A slice of the call's own: nil and empty, or at the head of a row of its own from block B on. -/
def FreshA {α : Type} (cf : α → List Value) (sz : Nat) (T : TypeId) (B : Nat) (w : World) (A : Option Addr) (cap : Nat) (xs : List α) : Prop :=
  (A = none ∧ xs = [] ∧ cap = 0) ∨ ∃ g, A = some ⟨g, 0, none⟩ ∧ B ≤ g ∧ OwnS cf sz T w g cap xs
def Lo (B : Nat) (A : Option Addr) : Prop := ∀ a, A = some a → B ≤ a.block
def Hi (n : Nat) (A : Option Addr) : Prop := ∀ a, A = some a → a.block < n
def blkO (A : Option Addr) : Option Nat := A.map (·.block)

section
variable {α : Type} {cf : α → List Value} {sz : Nat} {T : TypeId} {w w' : World} {A : Option Addr} {xs : List α} {g cap B : Nat}

theorem Rds.below (h : Rds cf sz w A xs) (hb : Below w.heap.size w w') : Rds cf sz w' A xs := by
  intro i x hx
  obtain ⟨b, off, hA, hlt, hc⟩ := h i x hx
  exact ⟨b, off, hA, Nat.lt_of_lt_of_le hlt hb.size, fun j v hv => (hb.cell (p := ⟨b, off + i * sz + j, none⟩) hlt).trans (hc j v hv)⟩
theorem Rds.nil : Rds cf sz w A [] := by
  intro i x hx
  simp at hx
theorem Rds.grown {row : Option Nat} (h : Rds cf sz w A xs) (hg : w.grownBy w' row) (hne : ∀ a, A = some a → some a.block ≠ row) : Rds cf sz w' A xs := by
  intro i x hx
  obtain ⟨b, off, hA, hlt, hc⟩ := h i x hx
  exact ⟨b, off, hA, Nat.lt_of_lt_of_le hlt hg.size, fun j v hv => (World.cell?_of_block (a := ⟨b, off + i * sz + j, none⟩) (hg.block b hlt (hne _ hA))).trans (hc j v hv)⟩
theorem OwnS.lt (h : OwnS cf sz T w g cap xs) : g < w.heap.size := by
  obtain ⟨cur, h1, _⟩ := h
  rcases Nat.lt_or_ge g w.heap.size with hl | hl
  · exact hl
  · rw [Array.getElem?_eq_none hl] at h1; cases h1
theorem OwnS.rds (h : OwnS cf sz T w g cap xs) : Rds cf sz w (some ⟨g, 0, none⟩) xs := by
  intro i x hx
  have hlt := h.lt
  obtain ⟨cur, h1, h2, h3, h4, h5⟩ := h
  refine ⟨g, 0, rfl, hlt, fun j v hv => ?_⟩
  have := h5 i x hx j v hv
  simp [World.cell?, h1, this]
theorem OwnS.block (h : OwnS cf sz T w g cap xs) (hb : w'.heap[g]? = w.heap[g]?) : OwnS cf sz T w' g cap xs := by
  obtain ⟨cur, h1, h2⟩ := h
  exact ⟨cur, hb.trans h1, h2⟩
theorem OwnS.below (h : OwnS cf sz T w g cap xs) (hb : Below w.heap.size w w') : OwnS cf sz T w' g cap xs := h.block (hb.block g h.lt)
theorem OwnS.grown {row : Option Nat} (h : OwnS cf sz T w g cap xs) (hg : w.grownBy w' row) (hne : some g ≠ row) : OwnS cf sz T w' g cap xs := h.block (hg.block g h.lt hne)
theorem OwnS.cell (h : OwnS cf sz T w g cap xs) (j : Nat) (hj : j < cap * sz) : ∃ v, w.cell? ⟨g, j, none⟩ = some v := by
  obtain ⟨cur, h1, h2, _⟩ := h
  exact ⟨cur[j]'(by omega), by simp [World.cell?, h1, h2, hj]⟩
theorem OwnS.frozen (h : OwnS cf sz T w g cap xs) (j : Nat) : w.frozen? ⟨g, j, none⟩ = false := by
  obtain ⟨cur, h1, _⟩ := h
  simp [World.frozen?, h1]
theorem OwnS.empty (h : OwnS cf sz T w g cap xs) : OwnS cf sz T w g cap ([] : List α) := by
  obtain ⟨cur, h1, h2, h3, h4, h5⟩ := h
  exact ⟨cur, h1, h2, Nat.zero_le _, h4, fun i x hx => by simp at hx⟩
theorem FreshA.rds (h : FreshA cf sz T B w A cap xs) : Rds cf sz w A xs := by
  rcases h with ⟨rfl, rfl, rfl⟩ | ⟨g, rfl, _, h⟩
  · exact Rds.nil
  · exact h.rds
theorem FreshA.lo (h : FreshA cf sz T B w A cap xs) : Lo B A := by
  rcases h with ⟨rfl, _, _⟩ | ⟨g, rfl, hB, _⟩
  · intro a ha; cases ha
  · intro a ha; cases ha; exact hB
theorem FreshA.hi (h : FreshA cf sz T B w A cap xs) : Hi w.heap.size A := by
  rcases h with ⟨rfl, _, _⟩ | ⟨g, rfl, _, h⟩
  · intro a ha; cases ha
  · intro a ha; cases ha; exact h.lt
theorem FreshA.below (h : FreshA cf sz T B w A cap xs) (hb : Below w.heap.size w w') : FreshA cf sz T B w' A cap xs := by
  rcases h with h | ⟨g, hA, hB, h⟩
  · exact .inl h
  · exact .inr ⟨g, hA, hB, h.below hb⟩
theorem FreshA.grown {row : Option Nat} (h : FreshA cf sz T B w A cap xs) (hg : w.grownBy w' row) (hne : ∀ a, A = some a → some a.block ≠ row) : FreshA cf sz T B w' A cap xs := by
  rcases h with h | ⟨g, rfl, hB, h⟩
  · exact .inl h
  · exact .inr ⟨g, rfl, hB, h.grown hg (hne _ rfl)⟩
theorem FreshA.mono {B' : Nat} (h : FreshA cf sz T B w A cap xs) (hB : B' ≤ B) : FreshA cf sz T B' w A cap xs := by
  rcases h with h | ⟨g, rfl, hg, h⟩
  · exact .inl h
  · exact .inr ⟨g, rfl, Nat.le_trans hB hg, h⟩
theorem Hi.mono {n m : Nat} (h : Hi n A) (hm : n ≤ m) : Hi m A := fun a ha => Nat.lt_of_lt_of_le (h a ha) hm
theorem Lo.mono {n m : Nat} (h : Lo n A) (hm : m ≤ n) : Lo m A := fun a ha => Nat.le_trans hm (h a ha)
/-- two slices of which one lies below, the other above -/
theorem apart_lh {A' : Option Addr} {n : Nat} (h : Hi n A) (h' : Lo n A') : ∀ a, A = some a → some a.block ≠ blkO A' := by
  intro a ha he
  cases hA' : A' with
  | none => rw [hA'] at he; cases he
  | some a' =>
    rw [hA'] at he
    have h1 := h a ha
    have h2 := h' a' hA'
    simp only [blkO, Option.map_some, Option.some.injEq] at he
    omega
theorem apart_hl {A' : Option Addr} {n : Nat} (h : Lo n A) (h' : Hi n A') : ∀ a, A = some a → some a.block ≠ blkO A' := by
  intro a ha he
  cases hA' : A' with
  | none => rw [hA'] at he; cases he
  | some a' =>
    rw [hA'] at he
    have h1 := h a ha
    have h2 := h' a' hA'
    simp only [blkO, Option.map_some, Option.some.injEq] at he
    omega
theorem below_grown {B : Nat} {a : World} (h : Below B a w) (hB : B ≤ w.heap.size) (hg : w.grownBy w' (blkO A)) (hl : Lo B A) : Below B a w' := by
  refine h.grown hg hB fun k hk => ?_
  cases hA : A with
  | none => rw [hA] at hk; cases hk
  | some x =>
    rw [hA] at hk
    simp only [blkO, Option.map_some, Option.some.injEq] at hk
    have := hl x hA
    omega

theorem flatMap_len (hcf : ∀ x, (cf x).length = sz) (xs : List α) : (xs.flatMap cf).length = xs.length * sz := by
  induction xs with
  | nil => simp
  | cons x xs ih => rw [List.flatMap_cons, List.length_append, hcf, ih, List.length_cons, Nat.succ_mul, Nat.add_comm]
theorem flatMap_at (hcf : ∀ x, (cf x).length = sz) : ∀ (xs : List α) (i : Nat) (x : α) (j : Nat), xs[i]? = some x → j < sz → (xs.flatMap cf)[i * sz + j]? = (cf x)[j]?
  | [], _, _, _, h, _ => by simp at h
  | y :: ys, 0, x, j, h, hj => by
    simp only [List.getElem?_cons_zero, Option.some.injEq] at h
    subst h
    rw [List.flatMap_cons, Nat.zero_mul, Nat.zero_add, List.getElem?_append_left (by rw [hcf]; exact hj)]
  | y :: ys, i + 1, x, j, h, hj => by
    simp only [List.getElem?_cons_succ] at h
    have e : (i + 1) * sz + j = sz + (i * sz + j) := by rw [Nat.succ_mul]; omega
    rw [List.flatMap_cons, e, List.getElem?_append_right (by rw [hcf]; omega), hcf, Nat.add_sub_cancel_left]
    exact flatMap_at hcf ys i x j h hj
theorem lt_of_cf (hcf : ∀ x, (cf x).length = sz) {x : α} {j : Nat} {v : Value} (h : (cf x)[j]? = some v) : j < sz := by
  rw [← hcf x]
  rcases Nat.lt_or_ge j (cf x).length with hl | hl
  · exact hl
  · rw [List.getElem?_eq_none hl] at h; cases h
theorem FreshA.of_own (hcf : ∀ x, (cf x).length = sz) {v : Value} (h : w.ownsRow B T sz v xs.length (xs.flatMap cf)) : ∃ A cap, v = .slice A xs.length cap ∧ FreshA cf sz T B w A cap xs := by
  obtain ⟨_, h⟩ := h
  rcases h with ⟨rfl, hn⟩ | ⟨g, cap, cur, rfl, hB, hh, hle, hm, hs, ht⟩
  · have : xs = [] := List.eq_nil_of_length_eq_zero hn
    subst this
    exact ⟨none, 0, rfl, .inl ⟨rfl, rfl, rfl⟩⟩
  · refine ⟨_, _, rfl, .inr ⟨g, rfl, hB, cur, hh, hs, hle, hm, fun i x hx j u hu => ?_⟩⟩
    have hj := lt_of_cf hcf hu
    have h1 := flatMap_at hcf xs i x j hx hj
    rw [← ht, hu] at h1
    have hi : i < xs.length := by
      rcases Nat.lt_or_ge i xs.length with hl | hl
      · exact hl
      · rw [List.getElem?_eq_none hl] at hx; cases hx
    have h2 : i * sz + j < xs.length * sz := by
      have : (i + 1) * sz ≤ xs.length * sz := Nat.mul_le_mul_right sz hi
      rw [Nat.succ_mul] at this
      omega
    rw [List.getElem?_take, if_pos h2] at h1
    simpa using h1
theorem OwnS.own (hcf : ∀ x, (cf x).length = sz) (hsz : 0 < sz) (h : OwnS cf sz T w g cap xs) (hB : B ≤ g) : w.ownsRow B T sz (.slice (some ⟨g, 0, none⟩) xs.length cap) xs.length (xs.flatMap cf) := by
  obtain ⟨cur, h1, h2, h3, h4, h5⟩ := h
  refine ⟨flatMap_len hcf xs, .inr ⟨g, cap, cur, rfl, hB, h1, h3, h4, h2, ?_⟩⟩
  refine List.ext_getElem? fun p => ?_
  rw [List.getElem?_take]
  by_cases hp : p < xs.length * sz
  · rw [if_pos hp]
    have hi : p / sz < xs.length := Nat.div_lt_of_lt_mul (by rw [Nat.mul_comm]; exact hp)
    have hj : p % sz < sz := Nat.mod_lt _ hsz
    have e : p / sz * sz + p % sz = p := by rw [Nat.mul_comm]; exact Nat.div_add_mod p sz
    have hx : xs[p / sz]? = some xs[p / sz] := List.getElem?_eq_getElem hi
    have hv : (cf xs[p / sz])[p % sz]? = some ((cf xs[p / sz])[p % sz]'(by rw [hcf]; exact hj)) := List.getElem?_eq_getElem _
    have h6 := h5 _ _ hx _ _ hv
    have h7 := flatMap_at hcf xs _ _ _ hx hj
    rw [e] at h6 h7
    rw [h7, hv]
    simpa using h6
  · rw [if_neg hp, List.getElem?_eq_none (by rw [flatMap_len hcf]; omega)]
theorem FreshA.own (hcf : ∀ x, (cf x).length = sz) (hsz : 0 < sz) (h : FreshA cf sz T B w A cap xs) : w.ownsRow B T sz (.slice A xs.length cap) xs.length (xs.flatMap cf) := by
  rcases h with ⟨rfl, rfl, rfl⟩ | ⟨g, rfl, hB, h⟩
  · exact World.ownsRow_nil w B T sz
  · exact h.own hcf hsz hB

theorem heap_setCell_self {cur : Array Value} {fr : Nat × Nat} (h : w.heap[g]? = some (.cells cur T fr)) (o : Nat) (u : Value) : (w.setCell ⟨g, o, none⟩ u).heap[g]? = some (.cells (cur.setIfInBounds o u) T fr) := by
  simp [World.setCell, Array.getElem?_modify, h]
def stores (w : World) (g : Nat) : Nat → List Value → World
  | _, [] => w
  | o, v :: vs => stores (w.setCell ⟨g, o, none⟩ v) g (o + 1) vs
theorem stores_heap : ∀ (vs : List Value) (w : World) (o : Nat) (cur : Array Value), w.heap[g]? = some (.cells cur T (0, 0)) → o + vs.length ≤ cur.size →
    ∃ cur' : Array Value, (stores w g o vs).heap[g]? = some (.cells cur' T (0, 0)) ∧ cur'.size = cur.size ∧ ∀ p, cur'[p]? = if o ≤ p ∧ p < o + vs.length then vs[p - o]? else cur[p]?
  | [], w, o, cur, h, _ => ⟨cur, h, rfl, fun p => by rw [if_neg (by simp only [List.length_nil]; omega)]⟩
  | v :: vs, w, o, cur, h, hl => by
    simp only [List.length_cons] at hl
    obtain ⟨cur', h1, h2, h3⟩ := stores_heap vs (w.setCell ⟨g, o, none⟩ v) (o + 1) _ (heap_setCell_self h o v) (by simp; omega)
    refine ⟨cur', h1, by simpa using h2, fun p => ?_⟩
    rw [h3]
    simp only [List.length_cons]
    by_cases hp : p = o
    · subst hp
      rw [if_neg (by omega), if_pos (by omega)]
      simp [show p < cur.size by omega]
    · by_cases hq : o + 1 ≤ p ∧ p < o + 1 + vs.length
      · rw [if_pos hq, if_pos (by omega), show p - o = (p - (o + 1)) + 1 by omega, List.getElem?_cons_succ]
      · rw [if_neg hq, if_neg (by omega), Array.getElem?_setIfInBounds_ne (fun e => hp e.symm)]
/-- one element more -/
theorem OwnS.push {x : α} (hcf : ∀ x, (cf x).length = sz) (h : OwnS cf sz T w g cap xs) (hlt : xs.length < cap) : OwnS cf sz T (stores w g (xs.length * sz) (cf x)) g cap (xs ++ [x]) := by
  obtain ⟨cur, h1, h2, h3, h4, h5⟩ := h
  have hroom : (xs.length + 1) * sz ≤ cap * sz := Nat.mul_le_mul_right sz hlt
  rw [Nat.succ_mul] at hroom
  obtain ⟨cur', e1, e2, e3⟩ := stores_heap (T := T) (cf x) w (xs.length * sz) cur h1 (by rw [hcf]; omega)
  refine ⟨cur', e1, e2.trans h2, by simp; omega, h4, fun i y hy j v hv => ?_⟩
  have hj := lt_of_cf hcf hv
  rw [e3, hcf]
  rw [List.getElem?_append] at hy
  split at hy
  · rename_i hi
    have : (i + 1) * sz ≤ xs.length * sz := Nat.mul_le_mul_right sz hi
    rw [Nat.succ_mul] at this
    rw [if_neg (by omega)]
    exact h5 i y hy j v hv
  · rename_i hi
    have hi' : i = xs.length := by
      rcases Nat.lt_or_ge (i - xs.length) 1 with h | h
      · omega
      · rw [List.getElem?_eq_none (by simpa using h)] at hy; cases hy
    subst hi'
    simp only [Nat.sub_self, List.getElem?_cons_zero, Option.some.injEq] at hy
    subst hy
    rw [if_pos (by omega), Nat.add_sub_cancel_left]
    exact hv
theorem OwnS.pushm {ys zs : List α} {x : α} {j : Nat} (hcf : ∀ x, (cf x).length = sz) (h : OwnS cf sz T w g cap ys) (hl : ys.length = j) (hs : zs = ys ++ [x]) (hj : j < cap) (hw : w' = stores w g (j * sz) (cf x)) : OwnS cf sz T w' g cap zs := by
  subst hl hs hw
  exact h.push hcf hj
theorem OwnS.pushk {k : Nat} (hcf : ∀ x, (cf x).length = sz) (h : OwnS cf sz T w g cap (xs.take k)) (hk : k < xs.length) (hc : xs.length ≤ cap) (hw : w' = stores w g (k * sz) (cf xs[k])) : OwnS cf sz T w' g cap (xs.take (k + 1)) :=
  h.pushm hcf (by rw [List.length_take]; omega) (List.take_succ_eq_append_getElem hk) (by omega) hw
theorem grown_set {a : World} (h : a.grownBy w (some g)) {o : Nat} {u : Value} : a.grownBy (w.setCell ⟨g, o, none⟩ u) (some g) :=
  ⟨h.os, h.tape, h.output, by simpa [World.setCell] using h.size, fun i hi hne => (Below.heap_setCell w ⟨g, o, none⟩ u i (fun e => hne (by rw [e]))).trans (h.block i hi hne)⟩
theorem make_run {P : Program} (t e : TypeId) (i : TypeInfo) (z : Value) (ht : P.underlying t = some (.slice e)) (hi : P.info? e = some i) (hz : i.zero = some z) (n : Nat) (hb : i.bytes * n ≤ 281474976710656) (hn : n ≤ 9223372036854775807) (w : World) :
    (Instr.makeSlice t (.int .i64 (n : Int)) (.int .i64 (n : Int))).run P w = .ok (.slice (some ⟨w.heap.size, 0, none⟩) n n) (w.alloc (.cells (madeCells z.cells (n * i.size)) e)) := by
  have hb' : (i.bytes : Int) * (n : Int) ≤ 281474976710656 := by
    have h : ((i.bytes * n : Nat) : Int) ≤ 281474976710656 := by omega
    rwa [Int.natCast_mul] at h
  have hr := run_make (P := P) (w := w) t e i z ht hi hz .i64 .i64 n n (by omega) (by omega) hb' (by omega)
  simpa only [Int.toNat_natCast] using hr
theorem stores_below {B : Nat} {a : World} : ∀ (vs : List Value) (w : World) (o : Nat), Below B a w → B ≤ g → Below B a (stores w g o vs)
  | [], _, _, h, _ => h
  | _ :: vs, _, _, h, hB => stores_below vs _ _ (h.setCell (p := ⟨g, _, none⟩) hB _) hB
end

/-- a fresh row that a helper made -/
def FreshRow {α : Type} (cf : α → List Value) (sz : Nat) (T : TypeId) (B : Nat) (xs : List α) (v : Value) (w : World) : Prop := ∃ g, v = .slice (some ⟨g, 0, none⟩) xs.length xs.length ∧ B ≤ g ∧ OwnS cf sz T w g xs.length xs
theorem FreshRow.stable {α : Type} {cf : α → List Value} {sz : Nat} {T : TypeId} {B : Nat} {xs : List α} : Stable (FreshRow cf sz T B xs) := fun _ _ _ h hb => by
  obtain ⟨g, h1, h2, h3⟩ := h
  exact ⟨g, h1, h2, h3.below hb⟩
theorem FreshRow.ltv {α : Type} {cf : α → List Value} {sz : Nat} {T : TypeId} {B : Nat} {xs : List α} {v : Value} {w : World} (h : FreshRow cf sz T B xs v w) : blkV v < w.heap.size := by
  obtain ⟨g, rfl, _, h3⟩ := h
  exact h3.lt
/-- 'out = append(out, y)' on a slice of the call's own, in this file's words -/
theorem wp_push {P : Program} {α : Type} {cf : α → List Value} {w : World} {o : Oper} {a : Act} {K : Act → World → Prop} {Q : Exit → Act → World → Prop} (s x : Operand) (t : TypeId)
    (ho : o.op = .call { callee := .builtin .append, args := #[s, x], argTypes := #[t, t] })
    (e : TypeId) (i : TypeInfo) (z : Value) (sz bytes : Nat) (ht : P.underlying t = some (.slice e)) (hi : P.info? e = some i) (hz : i.zero = some z)
    (hsize : i.size = sz) (hby : i.bytes = bytes) (hzs : z.cells.size = sz) (hsz : 0 < sz) (hcf : ∀ x, (cf x).length = sz) (hone : ∀ x, ∀ u ∈ cf x, u.oneCell' = true)
    (B : Nat) (A : Option Addr) (n cap : Nat) (xs : List α) (hn : xs.length = n) (hs : a.eval s = .slice A n cap) (hF : FreshA cf sz e B w A cap xs)
    (y : α) (gb c : Nat) (hx : a.eval x = .slice (some ⟨gb, 0, none⟩) 1 c) (hnews : ∀ j u, (cf y)[j]? = some u → w.cell? ⟨gb, j, none⟩ = some u)
    (h63 : n + 1 ≤ maxLen) (hbytes : (n + 1) * bytes ≤ 140737488355328) (hbase : B ≤ w.heap.size)
    (h : ∀ A' cap' w', FreshA cf sz e B w' A' cap' (xs ++ [y]) → w.grownBy w' (blkO A) → (blkO A' = blkO A ∨ blkO A' = some w.heap.size) → K (a.put o.dst (.slice A' (n + 1) cap')) w') : o.wp P a w K Q := by
  subst hn
  have hown := hF.own hcf hsz
  obtain ⟨v', w', hrun, hown', hg, _, hat⟩ := run_append_own_at (P := P) w B t o.type e i z sz bytes ht hi hz hsize hby hzs hsz _ _ _ hown ⟨gb, 0, none⟩ 1 c (cf y) (by rw [hcf, Nat.one_mul]) (fun j u hu => by
    have e : (⟨gb, 0, none⟩ : Addr).add j = ⟨gb, j, none⟩ := by
      unfold Addr.add
      by_cases hj : j = 0 <;> simp [hj]
    rw [e]
    exact hnews j u hu) (hone y) h63 hbytes hbase
  unfold Oper.wp execOp
  simp only [ho, resolve, invoke, builtin, Sem.run_bind, Sem.run_pure, Result.andThen_ok, List.map_toArray, List.map_cons, List.map_nil, hs, hx, hrun]
  have hl : (xs ++ [y]).length = xs.length + 1 := by simp
  have hown2 : w'.ownsRow B e sz v' (xs ++ [y]).length ((xs ++ [y]).flatMap cf) := by
    rw [hl, List.flatMap_append, List.flatMap_cons, List.flatMap_nil, List.append_nil]
    exact hown'
  obtain ⟨A', cap', rfl, hF'⟩ := FreshA.of_own hcf hown2
  have hb : ∀ (A : Option Addr) (n c : Nat), (Value.slice A n c).ownBlock = blkO A := fun A n c => by cases A <;> rfl
  rw [hb] at hg
  rw [hb, hb] at hat
  have := h A' cap' w' hF' hg hat
  rw [hl]
  exact this
theorem wpList_push {P : Program} {α : Type} {cf : α → List Value} {w : World} {ops : Array Oper} {rest : List Oper} {o : Oper} {a : Act} {Q : Exit → Act → World → Prop} (hgd : o.guard = none) (s x : Operand) (t : TypeId)
    (ho : o.op = .call { callee := .builtin .append, args := #[s, x], argTypes := #[t, t] })
    (e : TypeId) (i : TypeInfo) (z : Value) (sz bytes : Nat) (ht : P.underlying t = some (.slice e)) (hi : P.info? e = some i) (hz : i.zero = some z)
    (hsize : i.size = sz) (hby : i.bytes = bytes) (hzs : z.cells.size = sz) (hsz : 0 < sz) (hcf : ∀ x, (cf x).length = sz) (hone : ∀ x, ∀ u ∈ cf x, u.oneCell' = true)
    (B : Nat) (A : Option Addr) (n cap : Nat) (xs : List α) (hn : xs.length = n) (hs : a.eval s = .slice A n cap) (hF : FreshA cf sz e B w A cap xs)
    (y : α) (gb c : Nat) (hx : a.eval x = .slice (some ⟨gb, 0, none⟩) 1 c) (hnews : ∀ j u, (cf y)[j]? = some u → w.cell? ⟨gb, j, none⟩ = some u)
    (h63 : n + 1 ≤ maxLen) (hbytes : (n + 1) * bytes ≤ 140737488355328) (hbase : B ≤ w.heap.size)
    (h : ∀ A' cap' w', FreshA cf sz e B w' A' cap' (xs ++ [y]) → w.grownBy w' (blkO A) → (blkO A' = blkO A ∨ blkO A' = some w.heap.size) → wpList P ops Q rest (a.put o.dst (.slice A' (n + 1) cap')) w') : wpList P ops Q (o :: rest) a w :=
  wpList_plain hgd fun _ hK => wp_push s x t ho e i z sz bytes ht hi hz hsize hby hzs hsz hcf hone B A n cap xs hn hs hF y gb c hx hnews h63 hbytes hbase fun A' cap' w' h1 h2 h3 => hK _ _ (h A' cap' w' h1 h2 h3)
/-- block G is not the slice's own -/
def NeB (G : Nat) (A : Option Addr) : Prop := ∀ a, A = some a → a.block ≠ G
theorem NeB.next {G n : Nat} {A A' : Option Addr} (h : NeB G A) (hat : blkO A' = blkO A ∨ blkO A' = some n) (hn : G < n) : NeB G A' := by
  intro a ha
  rcases hat with e | e
  · rw [ha] at e
    cases hA : A with
    | none => rw [hA] at e; cases e
    | some a0 =>
      rw [hA] at e
      simp only [blkO, Option.map_some, Option.some.injEq] at e
      rw [e]
      exact h a0 hA
  · rw [ha] at e
    simp only [blkO, Option.map_some, Option.some.injEq] at e
    omega
theorem NeB.block {G : Nat} {A : Option Addr} {W w' : World} (h : NeB G A) (hg : W.grownBy w' (blkO A)) (hG : G < W.heap.size) : w'.heap[G]? = W.heap[G]? := by
  refine hg.block G hG fun e => ?_
  cases hA : A with
  | none => rw [hA] at e; cases e
  | some a =>
    rw [hA] at e
    simp only [blkO, Option.map_some, Option.some.injEq] at e
    exact h a hA e.symm
theorem NeB.cell {G : Nat} {A : Option Addr} {W w' : World} (h : NeB G A) (hg : W.grownBy w' (blkO A)) (hG : G < W.heap.size) (o : Nat) : w'.cell? ⟨G, o, none⟩ = W.cell? ⟨G, o, none⟩ := World.cell?_of_block (a := ⟨G, o, none⟩) (h.block hg hG)
theorem NeB.frozen {G : Nat} {A : Option Addr} {W w' : World} (h : NeB G A) (hg : W.grownBy w' (blkO A)) (hG : G < W.heap.size) (o : Nat) : w'.frozen? ⟨G, o, none⟩ = W.frozen? ⟨G, o, none⟩ := World.frozen?_of_block (a := ⟨G, o, none⟩) (h.block hg hG)
theorem cellGrown {W w' : World} {A : Option Addr} {B n : Nat} (hg : W.grownBy w' (blkO A)) (hl : Lo B A) (hh : Hi n A) : ∀ b o, w'.cell? ⟨b, o, none⟩ = if b < W.heap.size ∧ (b < B ∨ n ≤ b) then W.cell? ⟨b, o, none⟩ else far w' b o := by
  intro b o
  by_cases h : b < W.heap.size ∧ (b < B ∨ n ≤ b)
  · rw [if_pos h]
    refine World.cell?_of_block (a := ⟨b, o, none⟩) (hg.block b h.1 fun e => ?_)
    cases hA : A with
    | none => rw [hA] at e; cases e
    | some a =>
      rw [hA] at e
      simp only [blkO, Option.map_some, Option.some.injEq] at e
      have h1 := hl a hA
      have h2 := hh a hA
      omega
  · rw [if_neg h]; rfl
theorem frozGrown {W w' : World} {A : Option Addr} {B n : Nat} (hg : W.grownBy w' (blkO A)) (hl : Lo B A) (hh : Hi n A) : ∀ b o, w'.frozen? ⟨b, o, none⟩ = if b < W.heap.size ∧ (b < B ∨ n ≤ b) then W.frozen? ⟨b, o, none⟩ else farz w' b o := by
  intro b o
  by_cases h : b < W.heap.size ∧ (b < B ∨ n ≤ b)
  · rw [if_pos h]
    refine World.frozen?_of_block (a := ⟨b, o, none⟩) (hg.block b h.1 fun e => ?_)
    cases hA : A with
    | none => rw [hA] at e; cases e
    | some a =>
      rw [hA] at e
      simp only [blkO, Option.map_some, Option.some.injEq] at e
      have h1 := hl a hA
      have h2 := hh a hA
      omega
  · rw [if_neg h]; rfl
theorem below_of_grown {W w' : World} {A : Option Addr} {B : Nat} (hg : W.grownBy w' (blkO A)) (hl : Lo B A) (hB : B ≤ W.heap.size) : Below B W w' := below_grown (Below.refl B W) hB hg hl
theorem OwnS.set_far {α : Type} {cf : α → List Value} {sz : Nat} {T : TypeId} {w : World} {g cap : Nat} {xs : List α} (h : OwnS cf sz T w g cap xs) {p : Addr} (hp : g ≠ p.block) (u : Value) : OwnS cf sz T (w.setCell p u) g cap xs := h.block (Below.heap_setCell w p u g hp)
theorem FreshA.set_low {α : Type} {cf : α → List Value} {sz : Nat} {T : TypeId} {B cap : Nat} {w : World} {A : Option Addr} {xs : List α} (h : FreshA cf sz T B w A cap xs) {p : Addr} (hp : p.block < B) (u : Value) : FreshA cf sz T B (w.setCell p u) A cap xs := by
  rcases h with h | ⟨g, hA, hB, h⟩
  · exact .inl h
  · exact .inr ⟨g, hA, hB, h.set_far (by omega) u⟩
/-- a tuple whose first is a slice of the callee's own -/
def TupS {α : Type} (cf : α → List Value) (sz : Nat) (T : TypeId) (B : Nat) (L : List α) (rest : List Value) (v : Value) (w : World) : Prop := ∃ A cap, v = .tuple (Value.slice A L.length cap :: rest).toArray ∧ FreshA cf sz T B w A cap L
theorem TupS.stable {α : Type} {cf : α → List Value} {sz : Nat} {T : TypeId} {B : Nat} {L : List α} {rest : List Value} : Stable (TupS cf sz T B L rest) := fun _ _ _ h hb => by
  obtain ⟨A, cap, h1, h2⟩ := h
  exact ⟨A, cap, h1, h2.below hb⟩
def SlF {α : Type} (cf : α → List Value) (sz : Nat) (T : TypeId) (B : Nat) (L : List α) (v : Value) (w : World) : Prop := ∃ A cap, v = .slice A L.length cap ∧ FreshA cf sz T B w A cap L
theorem SlF.stable {α : Type} {cf : α → List Value} {sz : Nat} {T : TypeId} {B : Nat} {L : List α} : Stable (SlF cf sz T B L) := fun _ _ _ h hb => by
  obtain ⟨A, cap, h1, h2⟩ := h
  exact ⟨A, cap, h1, h2.below hb⟩
/-- what reads below survives a write into a row from n on -/
theorem Rds.past {α : Type} {cf : α → List Value} {sz : Nat} {w0 W W' : World} {A Ax : Option Addr} {xs : List α} {n : Nat} (h : Rds cf sz w0 A xs) (hb : Below w0.heap.size w0 W) (hg : W.grownBy W' (blkO Ax)) (hl : Lo n Ax) (hn : w0.heap.size ≤ n) : Rds cf sz W' A xs := by
  intro i x hx
  obtain ⟨b, off, hA, hlt, hc⟩ := h i x hx
  have hne : some b ≠ blkO Ax := by
    intro e
    cases hAx : Ax with
    | none => rw [hAx] at e; cases e
    | some a =>
      rw [hAx] at e
      simp only [blkO, Option.map_some, Option.some.injEq] at e
      have := hl a hAx
      omega
  have hW : b < W.heap.size := Nat.lt_of_lt_of_le hlt hb.size
  refine ⟨b, off, hA, Nat.lt_of_lt_of_le hW hg.size, fun j v hv => ?_⟩
  have h1 := World.cell?_of_block (a := ⟨b, off + i * sz + j, none⟩) (hg.block b hW hne)
  have h2 := hb.cell (p := ⟨b, off + i * sz + j, none⟩) hlt
  exact (h1.trans h2).trans (hc j v hv)
theorem FreshA.set_ne {α : Type} {cf : α → List Value} {sz : Nat} {T : TypeId} {B cap G : Nat} {w : World} {A : Option Addr} {xs : List α} (h : FreshA cf sz T B w A cap xs) (hne : NeB G A) (o : Nat) (u : Value) : FreshA cf sz T B (w.setCell ⟨G, o, none⟩ u) A cap xs := by
  rcases h with h | ⟨g, hA, hB, h⟩
  · exact .inl h
  · exact .inr ⟨g, hA, hB, h.set_far (p := ⟨G, o, none⟩) (hne _ hA) u⟩
/-- reads as a list, all its cells below block n -/
def RdsN {α : Type} (n : Nat) (cf : α → List Value) (sz : Nat) (w : World) (A : Option Addr) (xs : List α) : Prop :=
  ∀ i x, xs[i]? = some x → ∃ b off, A = some ⟨b, off, none⟩ ∧ b < n ∧ ∀ j v, (cf x)[j]? = some v → w.cell? ⟨b, off + i * sz + j, none⟩ = some v
theorem Rds.toN {α : Type} {cf : α → List Value} {sz : Nat} {w : World} {A : Option Addr} {xs : List α} (h : Rds cf sz w A xs) : RdsN w.heap.size cf sz w A xs := h
theorem RdsN.rds {α : Type} {n : Nat} {cf : α → List Value} {sz : Nat} {w : World} {A : Option Addr} {xs : List α} (h : RdsN n cf sz w A xs) (hn : n ≤ w.heap.size) : Rds cf sz w A xs := by
  intro i x hx
  obtain ⟨b, off, hA, hlt, hc⟩ := h i x hx
  exact ⟨b, off, hA, by omega, hc⟩
theorem RdsN.past {α : Type} {cf : α → List Value} {sz : Nat} {w0 W W' : World} {A Ax : Option Addr} {xs : List α} {m n : Nat} (h : RdsN m cf sz w0 A xs) (hm : m ≤ w0.heap.size) (hb : Below w0.heap.size w0 W) (hg : W.grownBy W' (blkO Ax)) (hl : Lo n Ax) (hn : m ≤ n) : RdsN m cf sz W' A xs := by
  intro i x hx
  obtain ⟨b, off, hA, hlt, hc⟩ := h i x hx
  have hne : some b ≠ blkO Ax := by
    intro e
    cases hAx : Ax with
    | none => rw [hAx] at e; cases e
    | some a =>
      rw [hAx] at e
      simp only [blkO, Option.map_some, Option.some.injEq] at e
      have := hl a hAx
      omega
  have hW : b < W.heap.size := by have := hb.size; omega
  refine ⟨b, off, hA, hlt, fun j v hv => ?_⟩
  have h1 := World.cell?_of_block (a := ⟨b, off + i * sz + j, none⟩) (hg.block b hW hne)
  have h2 := hb.cell (p := ⟨b, off + i * sz + j, none⟩) (by show b < _; omega)
  exact (h1.trans h2).trans (hc j v hv)
theorem RdsN.ofHi {α : Type} {n : Nat} {cf : α → List Value} {sz : Nat} {w : World} {A : Option Addr} {xs : List α} (h : Rds cf sz w A xs) (hh : Hi n A) : RdsN n cf sz w A xs := by
  intro i x hx
  obtain ⟨b, off, hA, _, hc⟩ := h i x hx
  exact ⟨b, off, hA, hh _ hA, hc⟩

theorem hid {p : Prop} (h : p) : Hid p := h

def idxF {α : Type} (p : α → Bool) (xs : List α) : Int := match xs.findIdx? p with | some i => (i : Int) | none => -1
theorem idxF_hit {α : Type} {p : α → Bool} {xs : List α} {k : Nat} (hl : (xs.take k).any p = false) (h : k < xs.length) (hp : p xs[k] = true) : idxF p xs = k := by
  have : xs.findIdx? p = some k := by
    rw [List.findIdx?_eq_some_iff_getElem]
    refine ⟨h, hp, fun j hj => ?_⟩
    rw [List.any_eq_false] at hl
    have := hl xs[j] (List.mem_take_iff_getElem.2 ⟨j, by omega, rfl⟩)
    simpa using this
  simp [idxF, this]
theorem idxF_none {α : Type} {p : α → Bool} {xs : List α} (hl : xs.any p = false) : idxF p xs = -1 := by
  have : xs.findIdx? p = none := by
    rw [List.findIdx?_eq_none_iff]
    rw [List.any_eq_false] at hl
    intro x hx
    simpa using hl x hx
  simp [idxF, this]
theorem idxF_any {α : Type} (p : α → Bool) (xs : List α) : (0 ≤ idxF p xs) ↔ xs.any p = true := by
  cases h : xs.any p with
  | false => rw [idxF_none h]; simp
  | true =>
    unfold idxF
    cases hf : xs.findIdx? p with
    | none =>
      rw [List.findIdx?_eq_none_iff] at hf
      rw [List.any_eq_true] at h
      obtain ⟨x, hx, hp⟩ := h
      rw [hf x hx] at hp; cases hp
    | some i => simp
theorem any_snoc {α : Type} (p : α → Bool) (xs : List α) (k : Nat) (h : k < xs.length) : (xs.take (k + 1)).any p = ((xs.take k).any p || p xs[k]) := by
  rw [List.take_succ_eq_append_getElem h, List.any_append]; simp
theorem any_hit {α : Type} {p : α → Bool} {xs : List α} {k : Nat} (h : k < xs.length) (hp : p xs[k] = true) : xs.any p = true := by
  rw [List.any_eq_true]; exact ⟨xs[k], List.getElem_mem h, hp⟩

end Go.Proofs.Yteciijnpfapmhaa
