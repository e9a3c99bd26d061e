import Derived.Test.YtipipicfkjigdaaT1
import Derived.Test.YtipipicfkjigdaaPush
namespace Go.Proofs.Ytipipicfkjigdaa
set_option linter.unusedSimpArgs false
set_option linter.unusedVariables false
open Go.RowKit

theorem FreshA.mk0 {α : Type} {cf : α → List Value} {sz : Nat} {T : TypeId} {B : Nat} {w : World} {g : Nat} (h : w.heap[g]? = some (.cells #[] T (0, 0))) (hB : B ≤ g) : FreshA cf sz T B w (some ⟨g, 0, none⟩) 0 ([] : List α) :=
  .inr ⟨g, rfl, hB, #[], h, by simp, Nat.le_refl _, by unfold maxLen; omega, fun i x h => by simp at h⟩

theorem wr_id2 {x : Int} (h : -9223372036854775808 ≤ x ∧ x ≤ 9223372036854775807) : IntKind.i64.wrap x = x := by
  rw [IntKind.wrap_i64]
  omega
theorem OwnS.int {w : World} {g cap k : Nat} {xs : List Int} {x : Int} (h : OwnS cIn 1 3 w g cap xs) (hk : xs[k]? = some x) : w.cell? ⟨g, k, none⟩ = some (.int .i64 x) := by
  obtain ⟨b, off, hA, _, hc⟩ := h.rds k x hk
  cases hA
  have := hc 0 _ rfl
  simpa using this
theorem OwnS.put1i {w : World} {g cap k : Nat} {xs : List Int} {y : Int} (h : OwnS cIn 1 3 w g cap xs) (hk : k < xs.length) : OwnS cIn 1 3 (w.setCell ⟨g, k, none⟩ (.int .i64 y)) g cap (xs.set k y) := by
  have := OwnS.put1 (cf := cIn) (sz := 1) (y := y) (k := k) (j := 0) (v := .int .i64 y) (fun _ => rfl) h hk (by decide) rfl
  simpa using this
theorem OwnS.far {w : World} {g cap : Nat} {xs : List Int} (h : OwnS cIn 1 3 w g cap xs) {p o : Nat} (hne : g ≠ p) (u : Value) : OwnS cIn 1 3 (w.setCell ⟨p, o, none⟩ u) g cap xs := h.block (Below.heap_setCell _ _ _ _ hne)
def NotB (g1 g2 : Nat) (A : Option Addr) : Prop := ∀ a, A = some a → a.block ≠ g1 ∧ a.block ≠ g2
def NotA (A A' : Option Addr) : Prop := ∀ a b, A = some a → A' = some b → a.block ≠ b.block
/-- what stands in memory while the reference goes through the jobs: the rows of starts and ends, the tugs' places and free ticks -/
structure RunSt (w : World) (ts : List TugT) (gp gf : Nat) (wr : World) (A1 : Option Addr) (c1 : Nat) (bg : List Int) (A2 : Option Addr) (c2 : Nat) (en : List Int) (P T : Int → Int) : Prop where
  a1 : FreshA cIn 1 3 w.heap.size wr A1 c1 bg
  a2 : FreshA cIn 1 3 w.heap.size wr A2 c2 en
  n1 : NotB gp gf A1
  n2 : NotB gp gf A2
  n3 : NotA A1 A2
  p : OwnS cIn 1 3 wr gp ts.length (ts.map fun t => P t.1)
  f : OwnS cIn 1 3 wr gf ts.length (ts.map fun t => T t.1)
  bel : Below w.heap.size w wr
section
variable {w wr w' : World} {ts : List TugT} {gp gf c1 c2 c3 : Nat} {A1 A2 A3 : Option Addr} {bg en : List Int} {P T : Int → Int}
theorem RunSt.below (h : RunSt w ts gp gf wr A1 c1 bg A2 c2 en P T) (hb : Below wr.heap.size wr w') : RunSt w ts gp gf w' A1 c1 bg A2 c2 en P T :=
  ⟨h.a1.below hb, h.a2.below hb, h.n1, h.n2, h.n3, h.p.below hb, h.f.below hb, h.bel.trans (hb.mono h.bel.size)⟩
theorem blk_ne {A : Option Addr} {g : Nat} (h : ∀ a, A = some a → a.block ≠ g) : some g ≠ blkO A := fun e => by
  cases hA : A with
  | none => rw [hA] at e; cases e
  | some a =>
    rw [hA] at e
    simp only [blkO, Option.map_some, Option.some.injEq] at e
    exact h a hA e.symm
theorem blk_next {A A3 : Option Addr} {n g : Nat} (hat : blkO A3 = blkO A ∨ blkO A3 = some n) (h : ∀ a, A = some a → a.block ≠ g) (hg : g < n) : ∀ a, A3 = some a → a.block ≠ g := fun a ha => by
  rcases hat with e | e
  · rw [ha] at e
    cases hA : A with
    | none => rw [hA] at e; cases e
    | some a0 =>
      rw [hA] at e
      simp only [blkO, Option.map_some, Option.some.injEq] at e
      rw [e]
      exact h a0 hA
  · rw [ha] at e
    simp only [blkO, Option.map_some, Option.some.injEq] at e
    omega
theorem row_below {A : Option Addr} {cap : Nat} {xs : List Int} {B : Nat} (h : FreshA cIn 1 3 B wr A cap xs) (hb : Below B w wr) (hB : B ≤ wr.heap.size) (hg : wr.grownBy w' (blkO A)) : Below B w w' := below_grown hb hB hg h.lo
theorem RunSt.push1 {x : Int} (h : RunSt w ts gp gf wr A1 c1 bg A2 c2 en P T) (hF : FreshA cIn 1 3 w.heap.size w' A3 c3 (bg ++ [x])) (hg : wr.grownBy w' (blkO A1)) (hat : blkO A3 = blkO A1 ∨ blkO A3 = some wr.heap.size) : RunSt w ts gp gf w' A3 c3 (bg ++ [x]) A2 c2 en P T :=
  ⟨hF, h.a2.grown hg (fun a ha => blk_ne fun b hb => h.n3 b a hb ha), fun a ha => ⟨blk_next hat (fun b hb => (h.n1 b hb).1) h.p.lt a ha, blk_next hat (fun b hb => (h.n1 b hb).2) h.f.lt a ha⟩, h.n2, fun a b ha hb => blk_next hat (fun c hc => h.n3 c b hc hb) (h.a2.hi b hb) a ha,
    h.p.grown hg (blk_ne fun b hb => (h.n1 b hb).1), h.f.grown hg (blk_ne fun b hb => (h.n1 b hb).2), row_below h.a1 h.bel h.bel.size hg⟩
theorem RunSt.push2 {x : Int} (h : RunSt w ts gp gf wr A1 c1 bg A2 c2 en P T) (hF : FreshA cIn 1 3 w.heap.size w' A3 c3 (en ++ [x])) (hg : wr.grownBy w' (blkO A2)) (hat : blkO A3 = blkO A2 ∨ blkO A3 = some wr.heap.size) : RunSt w ts gp gf w' A1 c1 bg A3 c3 (en ++ [x]) P T :=
  ⟨h.a1.grown hg (fun a ha => blk_ne fun b hb e => h.n3 a b ha hb e.symm), hF, h.n1, fun a ha => ⟨blk_next hat (fun b hb => (h.n2 b hb).1) h.p.lt a ha, blk_next hat (fun b hb => (h.n2 b hb).2) h.f.lt a ha⟩, fun a b ha hb e => blk_next hat (fun c hc e2 => h.n3 a c ha hc e2.symm) (h.a1.hi a ha) b hb e.symm,
    h.p.grown hg (blk_ne fun b hb => (h.n2 b hb).1), h.f.grown hg (blk_ne fun b hb => (h.n2 b hb).2), row_below h.a2 h.bel h.bel.size hg⟩
theorem FreshA.setb {B cap g o : Nat} {A : Option Addr} {xs : List Int} (h : FreshA cIn 1 3 B wr A cap xs) (hne : ∀ a, A = some a → a.block ≠ g) (u : Value) : FreshA cIn 1 3 B (wr.setCell ⟨g, o, none⟩ u) A cap xs := by
  rcases h with h | ⟨b, hA, hB, hO⟩
  · exact .inl h
  · exact .inr ⟨b, hA, hB, hO.block (Below.heap_setCell _ _ _ _ (hne _ hA))⟩
theorem RunSt.setP (h : RunSt w ts gp gf wr A1 c1 bg A2 c2 en P T) (ht : vB tugOk tugLt 4 ts = true) (hg : gp ≠ gf) (hB : w.heap.size ≤ gp) (k : Nat) (hk : k < ts.length) (u : Int) : RunSt w ts gp gf (wr.setCell ⟨gp, k, none⟩ (.int .i64 u)) A1 c1 bg A2 c2 en (fun i => if i = ts[k].1 then u else P i) T :=
  ⟨h.a1.setb (fun a ha => (h.n1 a ha).1) _, h.a2.setb (fun a ha => (h.n2 a ha).1) _, h.n1, h.n2, h.n3, by rw [← map_set ht P k hk]; exact h.p.put1i (by simpa using hk), h.f.far (Ne.symm hg) _, h.bel.setCell hB _⟩
theorem RunSt.setT (h : RunSt w ts gp gf wr A1 c1 bg A2 c2 en P T) (ht : vB tugOk tugLt 4 ts = true) (hg : gp ≠ gf) (hB : w.heap.size ≤ gf) (k : Nat) (hk : k < ts.length) (u : Int) : RunSt w ts gp gf (wr.setCell ⟨gf, k, none⟩ (.int .i64 u)) A1 c1 bg A2 c2 en P (fun i => if i = ts[k].1 then u else T i) :=
  ⟨h.a1.setb (fun a ha => (h.n1 a ha).2) _, h.a2.setb (fun a ha => (h.n2 a ha).2) _, h.n1, h.n2, h.n3, h.p.far hg _, by rw [← map_set ht T k hk]; exact h.f.put1i (by simpa using hk), h.bel.setCell hB _⟩
end

theorem made_own {w : World} {g n : Nat} (hg : w.heap[g]? = some (.cells (madeCells #[.int .i64 0] n) 3 (0, 0))) (hm : n ≤ 1000) (xs : List Int) (hl : xs.length = n) (h0 : ∀ x ∈ xs, x = 0) : OwnS cIn 1 3 w g n xs := by
  refine ⟨_, hg, by simp [madeCells], by omega, by unfold maxLen; omega, fun i x hx j v hv => ?_⟩
  have hi : i < xs.length := by
    rcases Nat.lt_or_ge i xs.length with h | h
    · exact h
    · rw [List.getElem?_eq_none h] at hx; cases hx
  have hx0 : x = 0 := h0 x (List.mem_of_getElem? hx)
  subst hx0
  have hj : j = 0 := by
    cases j with
    | zero => rfl
    | succ j => simp [cIn] at hv
  subst hj
  simp [cIn] at hv
  subst hv
  have hin : i < n := by omega
  simp [madeCells, hin, Nat.mod_one]
theorem mk_at (w : World) (o : Obj) (g : Nat) : (w.alloc o).heap[g]? = if g = w.heap.size then some o else w.heap[g]? := by
  rcases Nat.lt_trichotomy g w.heap.size with h | h | h
  · rw [if_neg (by omega), Below.heap_alloc _ _ _ h]
  · subst h
    rw [if_pos rfl]
    unfold World.alloc; simp
  · rw [if_neg (by omega), Array.getElem?_eq_none (by simp; omega), Array.getElem?_eq_none (by omega)]
theorem mk_sz (w : World) (o : Obj) : (w.alloc o).heap.size = w.heap.size + 1 := by simp
theorem mk_drew (w : World) : w.drew.heap = w.heap := rfl
theorem runSt_init (w : World) (ts : List TugT) (hn : ts.length ≤ 4) (gp gf : Nat) (hg : gp = w.heap.size + 1 + 1 ∧ gf = w.heap.size + 1 + 1 + 1 ∨ gp = w.heap.size + 1 + 1 + 1 ∧ gf = w.heap.size + 1 + 1) :
    RunSt w ts gp gf ((((w.alloc (.cells #[] 3)).alloc (.cells #[] 3)).alloc (.cells (madeCells #[.int .i64 0] ts.length) 3)).alloc (.cells (madeCells #[.int .i64 0] ts.length) 3)).drew (some ⟨w.heap.size, 0, none⟩) 0 [] (some ⟨w.heap.size + 1, 0, none⟩) 0 [] (plK ts 0) (fun _ => 0) := by
  have hB : Below w.heap.size w ((((w.alloc (.cells #[] 3)).alloc (.cells #[] 3)).alloc (.cells (madeCells #[.int .i64 0] ts.length) 3)).alloc (.cells (madeCells #[.int .i64 0] ts.length) 3)).drew :=
    (((((Below.refl _ _).alloc (by first | omega | (simp; done) | (simp; omega)) _).alloc (by first | omega | (simp; done) | (simp; omega)) _).alloc (by first | omega | (simp; done) | (simp; omega)) _).alloc (by first | omega | (simp; done) | (simp; omega)) _).drew
  refine ⟨FreshA.mk0 (by simp only [mk_drew, mk_at, mk_sz]; simp [Nat.add_assoc]) (Nat.le_refl _), FreshA.mk0 (by simp only [mk_drew, mk_at, mk_sz]; simp [Nat.add_assoc]) (by omega), fun a ha => ?_, fun a ha => ?_, fun a b ha hb => ?_, made_own ?_ (by omega) _ (by simp) (fun x hx => by rw [List.mem_map] at hx; obtain ⟨t, _, e⟩ := hx; exact e.symm), made_own ?_ (by omega) _ (by simp) (fun x hx => by rw [List.mem_map] at hx; obtain ⟨t, _, e⟩ := hx; exact e.symm), hB⟩
  · cases ha; simp only; omega
  · cases ha; simp only; omega
  · cases ha; cases hb; simp only; omega
  · simp only [mk_drew, mk_at, mk_sz]
    rcases hg with ⟨rfl, rfl⟩ | ⟨rfl, rfl⟩ <;> simp [Nat.add_assoc]
  · simp only [mk_drew, mk_at, mk_sz]
    rcases hg with ⟨rfl, rfl⟩ | ⟨rfl, rfl⟩ <;> simp [Nat.add_assoc]

end Go.Proofs.Ytipipicfkjigdaa
