import Derived.Test.YtpaclngjmdacjaaQP06
import Derived.Test.YtpaclngjmdacjaaQP00
import Derived.Test.YtpaclngjmdacjaaQP03
import Derived.Deep.Upon
namespace Go.Proofs.Ytpaclngjmdacjaa
set_option linter.unusedSimpArgs false
set_option linter.unusedVariables false
open Go.RowKit

theorem calls_named {P : Program} {f : Nat} {args : Array Value} {K : Ending → World → Prop} {w : World} (h : ∀ V, V = w → Calls P f args V K) : Calls P f args w K := h w rfl

section
variable {α : Type} {cf : α → List Value} {sz : Nat} {T : TypeId} {w w' : World} {A : Option Addr} {xs : List α} {g cap B : Nat}
end

section
variable {α : Type} {cf : α → List Value} {sz : Nat} {T : TypeId} {w w' : World} {A : Option Addr} {xs : List α} {g cap B : Nat}
theorem FreshA.capLe (h : FreshA cf sz T B w A cap xs) : xs.length ≤ cap := by
  rcases h with ⟨_, rfl, rfl⟩ | ⟨g, _, _, _, _, _, h, _⟩
  · exact Nat.le_refl _
  · exact h
/-- 'append(s, ys...)' on a slice of the call's own, of whatever reads as ys -/
theorem wp_pushesR {P : Program} {o : Oper} {a : Act} {K : Act → World → Prop} {Q : Exit → Act → World → Prop} (s x : Operand) (t : TypeId)
    (ho : o.op = .call { callee := .builtin .append, args := #[s, x], argTypes := #[t, t] })
    (e : TypeId) (i : TypeInfo) (z : Value) (bytes : Nat) (ht : P.underlying t = some (.slice e)) (hi : P.info? e = some i) (hz : i.zero = some z)
    (hsize : i.size = sz) (hby : i.bytes = bytes) (hzs : z.cells.size = sz) (hsz : 0 < sz) (hcf : ∀ x, (cf x).length = sz) (hone : ∀ x, ∀ u ∈ cf x, u.oneCell' = true)
    (n : Nat) (hn : xs.length = n) (hs : a.eval s = .slice A n cap) (hF : FreshA cf sz e B w A cap xs)
    (ys : List α) (m : Nat) (hm : ys.length = m) (Ax : Option Addr) (c : Nat) (hx : a.eval x = .slice Ax m c) (hr : Rds cf sz w Ax ys)
    (h63 : n + m ≤ maxLen) (hbytes : (n + m) * bytes ≤ 140737488355328) (hbase : B ≤ w.heap.size)
    (h : ∀ A' cap' w', FreshA cf sz e B w' A' cap' (xs ++ ys) → w.grownBy w' (blkO A) → (blkO A' = blkO A ∨ blkO A' = some w.heap.size) → K (a.put o.dst (.slice A' (n + m) cap')) w') : o.wp P a w K Q := by
  by_cases h0 : ys.length = 0
  · obtain rfl := List.eq_nil_of_length_eq_zero h0
    subst hn
    simp only [List.length_nil] at hm
    subst hm
    have hsrc : Src P i.size t (.slice Ax 0 c) 0 [] w := by
      cases Ax with
      | none => exact Src.ofNil w ht c
      | some q => exact Src.ofSlice w ht q 0 c [] (by simp) (fun j u hj => by simp at hj) (fun u hu => by cases hu)
    have hrun := run_append_nothing (P := P) w t t o.type e i ht hi A xs.length cap hF.capLe (.slice Ax 0 c) hsrc
    unfold Oper.wp execOp
    simp only [ho, resolve, invoke, builtin, Sem.run_bind, Sem.run_pure, Result.andThen_ok, List.map_toArray, List.map_cons, List.map_nil, hs, hx, hrun]
    exact h A cap w (by simpa using hF) (World.grownBy.refl _ _) (.inl rfl)
  · obtain ⟨b, off, rfl, hb, hc⟩ := Rds.all hr (by omega)
    exact wp_pushes s x t ho e i z bytes ht hi hz hsize hby hzs hsz hcf hone n hn hs hF ys m hm b off c hx hc h63 hbytes hbase h
theorem Rds.takeN (h : Rds cf sz w A xs) (k : Nat) : Rds cf sz w A (xs.take k) := by
  intro i x hx
  refine h i x ?_
  rw [List.getElem?_take] at hx
  split at hx
  · exact hx
  · cases hx
theorem Rds.dropN (h : Rds cf sz w A xs) (k : Nat) (A' : Option Addr) (hA : ∀ b off, A = some ⟨b, off, none⟩ → A' = some ⟨b, off + k * sz, none⟩) : Rds cf sz w A' (xs.drop k) := by
  intro i x hx
  rw [List.getElem?_drop] at hx
  obtain ⟨b, off, e, hb, hc⟩ := h (k + i) x hx
  refine ⟨b, off + k * sz, hA b off e, hb, fun j v hv => ?_⟩
  have := hc j v hv
  rw [Nat.add_mul] at this
  rwa [show off + k * sz + i * sz + j = off + (k * sz + i * sz) + j by omega]
end

section
variable {α : Type} {cf : α → List Value} {sz : Nat} {w : World} {A : Option Addr} {xs : List α} {cap B : Nat}
theorem wpList_pushesR {P : Program} {ops : Array Oper} {rest : List Oper} {o : Oper} {a : Act} {Q : Exit → Act → World → Prop} (hgd : o.guard = none) (s x : Operand) (t : TypeId)
    (ho : o.op = .call { callee := .builtin .append, args := #[s, x], argTypes := #[t, t] })
    (e : TypeId) (i : TypeInfo) (z : Value) (bytes : Nat) (ht : P.underlying t = some (.slice e)) (hi : P.info? e = some i) (hz : i.zero = some z)
    (hsize : i.size = sz) (hby : i.bytes = bytes) (hzs : z.cells.size = sz) (hsz : 0 < sz) (hcf : ∀ x, (cf x).length = sz) (hone : ∀ x, ∀ u ∈ cf x, u.oneCell' = true)
    (n : Nat) (hn : xs.length = n) (hs : a.eval s = .slice A n cap) (hF : FreshA cf sz e B w A cap xs)
    (ys : List α) (m : Nat) (hm : ys.length = m) (Ax : Option Addr) (c : Nat) (hx : a.eval x = .slice Ax m c) (hr : Rds cf sz w Ax ys)
    (h63 : n + m ≤ maxLen) (hbytes : (n + m) * bytes ≤ 140737488355328) (hbase : B ≤ w.heap.size)
    (h : ∀ A' cap' w', FreshA cf sz e B w' A' cap' (xs ++ ys) → w.grownBy w' (blkO A) → (blkO A' = blkO A ∨ blkO A' = some w.heap.size) → wpList P ops Q rest (a.put o.dst (.slice A' (n + m) cap')) w') : wpList P ops Q (o :: rest) a w :=
  wpList_plain hgd fun _ hK => wp_pushesR s x t ho e i z bytes ht hi hz hsize hby hzs hsz hcf hone n hn hs hF ys m hm Ax c hx hr h63 hbytes hbase fun A' cap' w' h1 h2 h3 => hK _ _ (h A' cap' w' h1 h2 h3)
end
theorem FreshA.capMax {α : Type} {cf : α → List Value} {sz : Nat} {T : TypeId} {w : World} {A : Option Addr} {xs : List α} {cap B : Nat} (h : FreshA cf sz T B w A cap xs) : cap ≤ maxLen := by
  rcases h with ⟨_, _, rfl⟩ | ⟨g, _, _, _, _, _, _, h, _⟩
  · exact Nat.zero_le _
  · exact h

theorem RQO_of {dst : Option Tmp} {ds : List Deferred} {G : Value → World → Prop} {a : Act} {w : World} (v : Value) (hd : a.defers = ds) (hv : gotV dst a = v) (hG : G v w) : RQO dst ds G .normal a w := ⟨rfl, hd, by rw [hv]; exact hG⟩

section
variable {α : Type} {cf : α → List Value} {sz : Nat} {T : TypeId} {w : World}
theorem Rds.ofBox {g : Nat} {y : α} (h : w.heap[g]? = some (.cells (cf y).toArray T (0, 0))) : Rds cf sz w (some ⟨g, 0, none⟩) [y] := by
  intro i x hx
  match i, hx with
  | 0, hx =>
    simp only [List.getElem?_cons_zero, Option.some.injEq] at hx
    subst hx
    exact ⟨g, 0, rfl, Fresh.lt h, fun j u hu => by rw [Fresh.cell h]; simpa using hu⟩
  | i + 1, hx => simp at hx
end

end Go.Proofs.Ytpaclngjmdacjaa
namespace Go.Proofs.Ytpaclngjmdacjaa
set_option linter.unusedSimpArgs false
set_option linter.unusedVariables false
open Go.RowKit

theorem FreshA.set_at {α : Type} {cf : α → List Value} {sz : Nat} {T : TypeId} {B cap : Nat} {w : World} {A : Option Addr} {xs : List α} (h : FreshA cf sz T B w A cap xs) {p : Addr} (hp : ∀ a, A = some a → a.block ≠ p.block) (u : Value) : FreshA cf sz T B (w.setCell p u) A cap xs := by
  rcases h with h | ⟨g, hA, hB, h⟩
  · exact .inl h
  · exact .inr ⟨g, hA, hB, h.set_far (by have := hp _ hA; simpa using this) u⟩
def LiO (b : Nat) (n : Nat) (o : Obj) (v : Value) (w : World) : Prop := ∃ g, v = .slice (some ⟨g, 0, none⟩) n n ∧ b < g ∧ w.heap[g]? = some o
theorem LiO.keep {b n : Nat} {o : Obj} {v : Value} {w w' : World} (h : LiO b n o v w) (hg : w.grownBy w' (some b)) : LiO b n o v w' := by
  obtain ⟨g, rfl, hb, hh⟩ := h
  exact ⟨g, rfl, hb, (hg.block g (Fresh.lt hh) (by simp; omega)).trans hh⟩
def XO (lo hi : Int) (v : Value) (w : World) : Prop := ∃ x : Int, v = .int .i64 x ∧ lo ≤ x ∧ x ≤ hi
def QO {α : Type} (vf : α → Value) (v : Value) (w : World) : Prop := ∃ q : α, v = vf q
def BqO {α : Type} (b : Nat) (cf : α → List Value) (T : TypeId) (v : Value) (w : World) : Prop := ∃ (q : α) (g : Nat), v = .slice (some ⟨g, 0, none⟩) 1 1 ∧ b < g ∧ w.heap[g]? = some (.cells (cf q).toArray T (0, 0))
theorem BqO.keep {α : Type} {b : Nat} {cf : α → List Value} {T : TypeId} {v : Value} {w w' : World} (h : BqO b cf T v w) (hg : w.grownBy w' (some b)) : BqO b cf T v w' := by
  obtain ⟨q, g, rfl, hb, hh⟩ := h
  exact ⟨q, g, rfl, hb, (hg.block g (Fresh.lt hh) (by simp; omega)).trans hh⟩

theorem post_named {P : Program} {fn : Func} {R : Ending → World → Prop} {e : Exit} {a : Act} {w : World} (h : ∀ W, W = w → bodyPost P fn R e a W) : bodyPost P fn R e a w := h w rfl
theorem wlist_named {P : Program} {ops : Array Oper} {Q : Exit → Act → World → Prop} {l : List Oper} {a : Act} {w : World} (h : ∀ W, W = w → wpList P ops Q l a W) : wpList P ops Q l a w := h w rfl
theorem grownT2 {a W w' : World} {row : Option Nat} (h : a.grownBy W row) (hg : W.grownBy w' row) : a.grownBy w' row := grown_trans h hg
theorem FreshA.of_own1 {α : Type} {cf : α → List Value} {sz : Nat} {T : TypeId} {w : World} {g cap B : Nat} {xs : List α} (h : OwnS cf sz T w g cap xs) (hB : B ≤ g) : FreshA cf sz T B w (some ⟨g, 0, none⟩) cap xs := .inr ⟨g, rfl, hB, h⟩
theorem cellK_alloc {w : World} {o : Obj} {b i : Nat} {v : Value} (h : w.cell? ⟨b, i, none⟩ = some v) : (w.alloc o).cell? ⟨b, i, none⟩ = some v := by
  have hlt : b < w.heap.size := by
    rcases Nat.lt_or_ge b w.heap.size with hl | hl
    · exact hl
    · simp [World.cell?, Array.getElem?_eq_none hl] at h
  exact (((Below.refl w.heap.size w).alloc (Nat.le_refl _) o).cell (p := ⟨b, i, none⟩) hlt).trans h
theorem cellK_drew {w : World} {b i : Nat} {v : Value} (h : w.cell? ⟨b, i, none⟩ = some v) : w.drew.cell? ⟨b, i, none⟩ = some v := h
theorem cellK_set {w : World} {p : Addr} {u : Value} {b i : Nat} {v : Value} (h : w.cell? ⟨b, i, none⟩ = some v) (hne : p.block ≠ b ∨ p.off ≠ i) : (w.setCell p u).cell? ⟨b, i, none⟩ = some v := by
  rw [World.cell?_setCell_other _ _ _ _ (by intro e; subst e; simp at hne)]
  exact h
theorem frozK_alloc {w : World} {c : Array Value} {t : TypeId} {b : Nat} (h : ∀ o, w.frozen? ⟨b, o, none⟩ = false) : ∀ o, (w.alloc (.cells c t)).frozen? ⟨b, o, none⟩ = false := by
  intro o
  rw [frozAlloc]
  split
  · exact h o
  · split
    · rfl
    · rename_i h1 h2
      have : (w.alloc (.cells c t)).heap[b]? = none := Array.getElem?_eq_none (by simp; omega)
      simp [farz, World.frozen?, this]
theorem frozK_drew {w : World} {b : Nat} (h : ∀ o, w.frozen? ⟨b, o, none⟩ = false) : ∀ o, w.drew.frozen? ⟨b, o, none⟩ = false := h
theorem frozK_set {w : World} {p : Addr} {u : Value} {b : Nat} (h : ∀ o, w.frozen? ⟨b, o, none⟩ = false) : ∀ o, (w.setCell p u).frozen? ⟨b, o, none⟩ = false := by
  intro o
  have := h o
  simpa [go_sem] using this

theorem FreshA.apart {α β : Type} {cf : α → List Value} {cg : β → List Value} {sz sz' : Nat} {T T' : TypeId} {B B' : Nat} {w : World} {A A' : Option Addr} {cap cap' : Nat} {xs : List α} {ys : List β} (h : FreshA cf sz T B w A cap xs) (h' : FreshA cg sz' T' B' w A' cap' ys) (hT : T ≠ T') : ∀ a, A = some a → some a.block ≠ blkO A' := by
  intro a ha e
  rcases h with ⟨rfl, _, _⟩ | ⟨g, rfl, _, h⟩
  · cases ha
  cases ha
  rcases h' with ⟨rfl, _, _⟩ | ⟨k, rfl, _, h'⟩
  · cases e
  simp only [blkO, Option.map_some, Option.some.injEq] at e
  subst e
  obtain ⟨_, e1, _⟩ := h
  obtain ⟨_, e2, _⟩ := h'
  rw [e1] at e2
  simp only [Option.some.injEq, Obj.cells.injEq] at e2
  exact hT e2.2.1

end Go.Proofs.Ytpaclngjmdacjaa
namespace Go.Proofs.Ytpaclngjmdacjaa
set_option linter.unusedSimpArgs false
set_option linter.unusedVariables false
open Go.RowKit

def FSa (b tb : Nat) (A2 : Option Addr) (n0 cp2 : Nat) (iq : Nat) (v : Value) (w1 : World) : Prop := match iq with
  | 0 => v = .pointer (some ⟨tb, 3, none⟩)
  | 1 => v = .slice A2 n0 cp2
  | 2 => v = .pointer (some ⟨b, 0, none⟩)
  | 3 => LiO b 7 (.cells #[.int .i64 0, .int .i64 5, .int .i64 10, .int .i64 20, .int .i64 50, .int .i64 (-10), .int .i64 (-50)] 3 (0, 0)) v w1
  | 4 => XO (-50) 50 v w1
  | 5 => BqO b cIn 3 v w1
  | _ => True
def FSb (b tb : Nat) (A3 : Option Addr) (n0 cp3 : Nat) (iq : Nat) (v : Value) (w1 : World) : Prop := match iq with
  | 0 => v = .pointer (some ⟨tb, 4, none⟩)
  | 1 => v = .slice A3 n0 cp3
  | 2 => v = .pointer (some ⟨b, 0, none⟩)
  | 3 => LiO b 5 (.cells #[.int .i64 1, .int .i64 5, .int .i64 10, .int .i64 20, .int .i64 50] 3 (0, 0)) v w1
  | 4 => XO 1 50 v w1
  | 5 => v = .pointer (some ⟨b, 0, none⟩)
  | 6 => LiO b 4 (.cells #[.int .i64 0, .int .i64 1, .int .i64 3, .int .i64 20] 3 (0, 0)) v w1
  | 7 => XO 0 20 v w1
  | 8 => v = .pointer (some ⟨b, 0, none⟩)
  | 9 => LiO b 4 (.cells #[.int .i64 0, .int .i64 2, .int .i64 10, .int .i64 50] 3 (0, 0)) v w1
  | 10 => XO 0 50 v w1
  | 11 => QO (fun q : Int × Int × Int => .agg #[.int .i64 q.1, .int .i64 q.2.1, .int .i64 q.2.2]) v w1
  | 12 => BqO b cPu 71 v w1
  | _ => True
def FSc (b tb : Nat) (A2 : Option Addr) (n0 cp2 : Nat) (iq : Nat) (v : Value) (w1 : World) : Prop := match iq with
  | 0 => v = .pointer (some ⟨tb, 3, none⟩)
  | 1 => v = .slice A2 n0 cp2
  | 2 => v = .pointer (some ⟨b, 0, none⟩)
  | 3 => LiO b 2 (.cells #[.int .i64 51, .int .i64 (-51)] 3 (0, 0)) v w1
  | 4 => XO (-51) 51 v w1
  | _ => True
def FSd (b tb : Nat) (A3 : Option Addr) (n0 cp3 : Nat) (iq : Nat) (v : Value) (w1 : World) : Prop := match iq with
  | 0 => v = .pointer (some ⟨tb, 4, none⟩)
  | 1 => v = .slice A3 n0 cp3
  | 2 => v = .pointer (some ⟨b, 0, none⟩)
  | 3 => LiO b 3 (.cells #[.int .i64 0, .int .i64 1, .int .i64 51] 3 (0, 0)) v w1
  | 4 => XO 0 51 v w1
  | 5 => v = .pointer (some ⟨b, 0, none⟩)
  | 6 => LiO b 2 (.cells #[.int .i64 0, .int .i64 21] 3 (0, 0)) v w1
  | 7 => XO 0 21 v w1
  | 8 => v = .pointer (some ⟨b, 0, none⟩)
  | 9 => LiO b 2 (.cells #[.int .i64 0, .int .i64 51] 3 (0, 0)) v w1
  | 10 => XO 0 51 v w1
  | 11 => QO (fun q : Int × Int × Int => .agg #[.int .i64 q.1, .int .i64 q.2.1, .int .i64 q.2.2]) v w1
  | 12 => BqO b cPu 71 v w1
  | _ => True
set_option maxRecDepth 100000 in
set_option maxHeartbeats 16000000 in
theorem c_pumpTask (b : Nat) (A : Option Addr) (cs : List Int) (cap : Nat) (m : Int) (w : World) (hcu : CurS w b A cs cap m) (hby : Bytes cs) (hm : 0 ≤ m ∧ m ≤ 700000000) (hl : cs.length ≤ 1000000000) :
    Calls Try.prog 69 #[.pointer (some ⟨b, 0, none⟩)] w fun e w' => ∃ (l u v : Int) (Af : Option Addr) (cf : Nat) (fs : List Int) (Aq : Option Addr) (cq : Nat) (ps : List (Int × Int × Int)), e = .returned (.agg #[.int .i64 l, .int .i64 u, .int .i64 v, .slice Af fs.length cf, .slice Aq ps.length cq]) ∧ FreshA cIn 1 3 w.heap.size w' Af cf fs ∧ FreshA cPu 3 71 w.heap.size w' Aq cq ps ∧ fs.length ≤ 10 ∧ ps.length ≤ 3 ∧ CurS w' b A cs cap (m + 300) ∧ w.grownBy w' (some b) := by
  obtain ⟨i0, hI0, hI1, hI2, hI3⟩ := info_parts info_In
  obtain ⟨j0, hJ0, hJ1, hJ2, hJ3⟩ := info_parts info_Pu
  have hlt0 := hcu.lt
  go_enter Try.func69, Try.ntmps69
  go_wp2_with (fail)
  refine calls_named ?_
  intro V1 hV
  have hkV1 : w.heap.size ≤ V1.heap.size := by rw [hV]; first | with_reducible exact Nat.le_refl _ | (simp [World.setCell]; done) | (simp; omega)
  have cu2 : CurS V1 b A cs cap (m) := by rw [hV]; (repeat' (first | with_reducible refine CurS.setc ?_ ?_ | with_reducible refine CurS.allo ?_ | with_reducible refine CurS.drw ?_ | with_reducible exact hcu | (dsimp only; omega) | (simp; done) | (simp; omega)))
  have gw3 : w.grownBy V1 (some b) := by rw [hV]; (repeat' (first | with_reducible exact World.grownBy.refl _ _ | fail | with_reducible refine grownA ?_ | with_reducible refine grownS ?_ ?_ | with_reducible refine grown_drew ?_ | (dsimp only; omega) | (simp; done) | omega))
  have hzgw3 := gw3.size
  have hlcu2 := cu2.lt
  have d4 : V1.cell? ⟨w.heap.size, 0, none⟩ = some (.int .i64 0) := by rw [hV]; first | (simp [go_sem, ↓IntWalk.iteOmega, *]; done) | (simp [go_sem, ↓IntWalk.iteOmega, *]; intros; omega)
  have d5 : V1.cell? ⟨w.heap.size, 1, none⟩ = some (.int .i64 0) := by rw [hV]; first | (simp [go_sem, ↓IntWalk.iteOmega, *]; done) | (simp [go_sem, ↓IntWalk.iteOmega, *]; intros; omega)
  have d6 : V1.cell? ⟨w.heap.size, 2, none⟩ = some (.int .i64 0) := by rw [hV]; first | (simp [go_sem, ↓IntWalk.iteOmega, *]; done) | (simp [go_sem, ↓IntWalk.iteOmega, *]; intros; omega)
  have d7 : V1.cell? ⟨w.heap.size, 3, none⟩ = some (.slice none 0 0) := by rw [hV]; first | (simp [go_sem, ↓IntWalk.iteOmega, *]; done) | (simp [go_sem, ↓IntWalk.iteOmega, *]; intros; omega)
  have d8 : V1.cell? ⟨w.heap.size, 4, none⟩ = some (.slice none 0 0) := by rw [hV]; first | (simp [go_sem, ↓IntWalk.iteOmega, *]; done) | (simp [go_sem, ↓IntWalk.iteOmega, *]; intros; omega)
  have e9 : ∀ o, V1.frozen? ⟨w.heap.size, o, none⟩ = false := by rw [hV]; intro o; first | (simp [go_sem, ↓IntWalk.iteOmega, *]; done) | (simp [go_sem, ↓IntWalk.iteOmega, *]; intros; omega)
  have hTR : w.heap.size < V1.heap.size := by rw [hV]; first | (simp; done) | (simp; omega)
  refine (c_among b A cs cap (m) _ ([0, 10, 100] : List Int) _ (0) (100) _ cu2 hby (by omega) hl (by rw [hV]; exact Rds.of_lit (by simp) (by intro i x h; rcases i with _ | _ | _ | i <;> simp at h ⊢ <;> first | exact h | omega)) (by simp) (by intro a ha; cases ha; simp; omega) (fun k hk => (show ∀ x ∈ ([0, 10, 100] : List Int), 0 ≤ x ∧ x ≤ 100 by intro x hx; simp at hx; omega) _ (List.getElem_mem hk))).mono ?_
  rintro e W11 ⟨dx10, rfl, hdx10a, hdx10b, hcn, hg⟩
  clear hV
  have hkW11 := hg.size
  have c12 : W11.cell? ⟨w.heap.size, 0, none⟩ = some (.int .i64 0) := (cellRow hg (w.heap.size) 0).trans (by rw [if_pos ⟨by omega, by omega⟩]; exact d4)
  have c13 : W11.cell? ⟨w.heap.size, 1, none⟩ = some (.int .i64 0) := (cellRow hg (w.heap.size) 1).trans (by rw [if_pos ⟨by omega, by omega⟩]; exact d5)
  have c14 : W11.cell? ⟨w.heap.size, 2, none⟩ = some (.int .i64 0) := (cellRow hg (w.heap.size) 2).trans (by rw [if_pos ⟨by omega, by omega⟩]; exact d6)
  have c15 : W11.cell? ⟨w.heap.size, 3, none⟩ = some (.slice none 0 0) := (cellRow hg (w.heap.size) 3).trans (by rw [if_pos ⟨by omega, by omega⟩]; exact d7)
  have c16 : W11.cell? ⟨w.heap.size, 4, none⟩ = some (.slice none 0 0) := (cellRow hg (w.heap.size) 4).trans (by rw [if_pos ⟨by omega, by omega⟩]; exact d8)
  have z17 : ∀ o, W11.frozen? ⟨w.heap.size, o, none⟩ = false := fun o => (frozRow hg (w.heap.size) o).trans (by rw [if_pos ⟨by omega, by omega⟩]; exact e9 o)
  have cu18 : CurS W11 b A cs cap (m + 1) := hcn
  have gw19 : w.grownBy W11 (some b) := grown_trans gw3 hg
  have hzgw19 := gw19.size
  have hlcu18 := cu18.lt
  clear d4 d5 d6 d7 d8 e9 cu2 gw3
  clear hg
  go_wp2_with (fail)
  refine calls_named ?_
  intro V20 hV
  have hkV20 : W11.heap.size ≤ V20.heap.size := by rw [hV]; first | with_reducible exact Nat.le_refl _ | (simp [World.setCell]; done) | (simp; omega)
  have c21 : V20.cell? ⟨w.heap.size, 0, none⟩ = some (.int .i64 0) := by rw [hV]; first | ((repeat' (first | with_reducible exact c12 | with_reducible refine cellK_drew ?_ | with_reducible refine cellK_alloc ?_ | with_reducible refine cellK_set ?_ (by dsimp only; omega))); done) | (first | (simp [go_sem, ↓IntWalk.iteOmega, *]; done) | (simp [go_sem, ↓IntWalk.iteOmega, *]; intros; omega))
  have c22 : V20.cell? ⟨w.heap.size, 1, none⟩ = some (.int .i64 0) := by rw [hV]; first | ((repeat' (first | with_reducible exact c13 | with_reducible refine cellK_drew ?_ | with_reducible refine cellK_alloc ?_ | with_reducible refine cellK_set ?_ (by dsimp only; omega))); done) | (first | (simp [go_sem, ↓IntWalk.iteOmega, *]; done) | (simp [go_sem, ↓IntWalk.iteOmega, *]; intros; omega))
  have c23 : V20.cell? ⟨w.heap.size, 2, none⟩ = some (.int .i64 0) := by rw [hV]; first | ((repeat' (first | with_reducible exact c14 | with_reducible refine cellK_drew ?_ | with_reducible refine cellK_alloc ?_ | with_reducible refine cellK_set ?_ (by dsimp only; omega))); done) | (first | (simp [go_sem, ↓IntWalk.iteOmega, *]; done) | (simp [go_sem, ↓IntWalk.iteOmega, *]; intros; omega))
  have c24 : V20.cell? ⟨w.heap.size, 3, none⟩ = some (.slice none 0 0) := by rw [hV]; first | ((repeat' (first | with_reducible exact c15 | with_reducible refine cellK_drew ?_ | with_reducible refine cellK_alloc ?_ | with_reducible refine cellK_set ?_ (by dsimp only; omega))); done) | (first | (simp [go_sem, ↓IntWalk.iteOmega, *]; done) | (simp [go_sem, ↓IntWalk.iteOmega, *]; intros; omega))
  have c25 : V20.cell? ⟨w.heap.size, 4, none⟩ = some (.slice none 0 0) := by rw [hV]; first | ((repeat' (first | with_reducible exact c16 | with_reducible refine cellK_drew ?_ | with_reducible refine cellK_alloc ?_ | with_reducible refine cellK_set ?_ (by dsimp only; omega))); done) | (first | (simp [go_sem, ↓IntWalk.iteOmega, *]; done) | (simp [go_sem, ↓IntWalk.iteOmega, *]; intros; omega))
  have z26 : ∀ o, V20.frozen? ⟨w.heap.size, o, none⟩ = false := by rw [hV]; first | ((repeat' (first | with_reducible exact z17 | with_reducible refine frozK_drew ?_ | with_reducible refine frozK_alloc ?_ | with_reducible refine frozK_set ?_)); done) | (intro o; first | (simp [go_sem, ↓IntWalk.iteOmega, *]; done) | (simp [go_sem, ↓IntWalk.iteOmega, *]; intros; omega))
  have cu27 : CurS V20 b A cs cap (m + 1) := by rw [hV]; (repeat' (first | with_reducible refine CurS.setc ?_ ?_ | with_reducible refine CurS.allo ?_ | with_reducible refine CurS.drw ?_ | with_reducible exact cu18 | (dsimp only; omega) | (simp; done) | (simp; omega)))
  have gw28 : w.grownBy V20 (some b) := by rw [hV]; (repeat' (first | with_reducible exact World.grownBy.refl _ _ | with_reducible exact gw19 | with_reducible refine grownA ?_ | with_reducible refine grownS ?_ ?_ | with_reducible refine grown_drew ?_ | (dsimp only; omega) | (simp; done) | omega))
  have hzgw28 := gw28.size
  have hlcu27 := cu27.lt
  clear c12 c13 c14 c15 c16 z17 cu18 gw19
  refine (c_among b A cs cap (m + 1) _ ([100, 105, 110, 120] : List Int) _ (100) (120) _ cu27 hby (by omega) hl (by rw [hV]; exact Rds.of_lit (by simp) (by intro i x h; rcases i with _ | _ | _ | _ | i <;> simp at h ⊢ <;> first | exact h | omega)) (by simp) (by intro a ha; cases ha; simp; omega) (fun k hk => (show ∀ x ∈ ([100, 105, 110, 120] : List Int), 100 ≤ x ∧ x ≤ 120 by intro x hx; simp at hx; omega) _ (List.getElem_mem hk))).mono ?_
  rintro e W30 ⟨dx29, rfl, hdx29a, hdx29b, hcn, hg⟩
  clear hV
  have hkW30 := hg.size
  have c31 : W30.cell? ⟨w.heap.size, 0, none⟩ = some (.int .i64 0) := (cellRow hg (w.heap.size) 0).trans (by rw [if_pos ⟨by omega, by omega⟩]; exact c21)
  have c32 : W30.cell? ⟨w.heap.size, 1, none⟩ = some (.int .i64 0) := (cellRow hg (w.heap.size) 1).trans (by rw [if_pos ⟨by omega, by omega⟩]; exact c22)
  have c33 : W30.cell? ⟨w.heap.size, 2, none⟩ = some (.int .i64 0) := (cellRow hg (w.heap.size) 2).trans (by rw [if_pos ⟨by omega, by omega⟩]; exact c23)
  have c34 : W30.cell? ⟨w.heap.size, 3, none⟩ = some (.slice none 0 0) := (cellRow hg (w.heap.size) 3).trans (by rw [if_pos ⟨by omega, by omega⟩]; exact c24)
  have c35 : W30.cell? ⟨w.heap.size, 4, none⟩ = some (.slice none 0 0) := (cellRow hg (w.heap.size) 4).trans (by rw [if_pos ⟨by omega, by omega⟩]; exact c25)
  have z36 : ∀ o, W30.frozen? ⟨w.heap.size, o, none⟩ = false := fun o => (frozRow hg (w.heap.size) o).trans (by rw [if_pos ⟨by omega, by omega⟩]; exact z26 o)
  have cu37 : CurS W30 b A cs cap (m + 1 + 1) := hcn
  have gw38 : w.grownBy W30 (some b) := grown_trans gw28 hg
  have hzgw38 := gw38.size
  have hlcu37 := cu37.lt
  clear c21 c22 c23 c24 c25 z26 cu27 gw28
  clear hg
  go_wp2_with (fail)
  refine calls_named ?_
  intro V39 hV
  have hkV39 : W30.heap.size ≤ V39.heap.size := by rw [hV]; first | with_reducible exact Nat.le_refl _ | (simp [World.setCell]; done) | (simp; omega)
  have c40 : V39.cell? ⟨w.heap.size, 0, none⟩ = some (.int .i64 0) := by rw [hV]; first | ((repeat' (first | with_reducible exact c31 | with_reducible refine cellK_drew ?_ | with_reducible refine cellK_alloc ?_ | with_reducible refine cellK_set ?_ (by dsimp only; omega))); done) | (first | (simp [go_sem, ↓IntWalk.iteOmega, *]; done) | (simp [go_sem, ↓IntWalk.iteOmega, *]; intros; omega))
  have c41 : V39.cell? ⟨w.heap.size, 1, none⟩ = some (.int .i64 0) := by rw [hV]; first | ((repeat' (first | with_reducible exact c32 | with_reducible refine cellK_drew ?_ | with_reducible refine cellK_alloc ?_ | with_reducible refine cellK_set ?_ (by dsimp only; omega))); done) | (first | (simp [go_sem, ↓IntWalk.iteOmega, *]; done) | (simp [go_sem, ↓IntWalk.iteOmega, *]; intros; omega))
  have c42 : V39.cell? ⟨w.heap.size, 2, none⟩ = some (.int .i64 0) := by rw [hV]; first | ((repeat' (first | with_reducible exact c33 | with_reducible refine cellK_drew ?_ | with_reducible refine cellK_alloc ?_ | with_reducible refine cellK_set ?_ (by dsimp only; omega))); done) | (first | (simp [go_sem, ↓IntWalk.iteOmega, *]; done) | (simp [go_sem, ↓IntWalk.iteOmega, *]; intros; omega))
  have c43 : V39.cell? ⟨w.heap.size, 3, none⟩ = some (.slice none 0 0) := by rw [hV]; first | ((repeat' (first | with_reducible exact c34 | with_reducible refine cellK_drew ?_ | with_reducible refine cellK_alloc ?_ | with_reducible refine cellK_set ?_ (by dsimp only; omega))); done) | (first | (simp [go_sem, ↓IntWalk.iteOmega, *]; done) | (simp [go_sem, ↓IntWalk.iteOmega, *]; intros; omega))
  have c44 : V39.cell? ⟨w.heap.size, 4, none⟩ = some (.slice none 0 0) := by rw [hV]; first | ((repeat' (first | with_reducible exact c35 | with_reducible refine cellK_drew ?_ | with_reducible refine cellK_alloc ?_ | with_reducible refine cellK_set ?_ (by dsimp only; omega))); done) | (first | (simp [go_sem, ↓IntWalk.iteOmega, *]; done) | (simp [go_sem, ↓IntWalk.iteOmega, *]; intros; omega))
  have z45 : ∀ o, V39.frozen? ⟨w.heap.size, o, none⟩ = false := by rw [hV]; first | ((repeat' (first | with_reducible exact z36 | with_reducible refine frozK_drew ?_ | with_reducible refine frozK_alloc ?_ | with_reducible refine frozK_set ?_)); done) | (intro o; first | (simp [go_sem, ↓IntWalk.iteOmega, *]; done) | (simp [go_sem, ↓IntWalk.iteOmega, *]; intros; omega))
  have cu46 : CurS V39 b A cs cap (m + 1 + 1) := by rw [hV]; (repeat' (first | with_reducible refine CurS.setc ?_ ?_ | with_reducible refine CurS.allo ?_ | with_reducible refine CurS.drw ?_ | with_reducible exact cu37 | (dsimp only; omega) | (simp; done) | (simp; omega)))
  have gw47 : w.grownBy V39 (some b) := by rw [hV]; (repeat' (first | with_reducible exact World.grownBy.refl _ _ | with_reducible exact gw38 | with_reducible refine grownA ?_ | with_reducible refine grownS ?_ ?_ | with_reducible refine grown_drew ?_ | (dsimp only; omega) | (simp; done) | omega))
  have hzgw47 := gw47.size
  have hlcu46 := cu46.lt
  clear c31 c32 c33 c34 c35 z36 cu37 gw38
  refine (c_among b A cs cap (m + 1 + 1) _ ([120, 130, 150, 500] : List Int) _ (120) (500) _ cu46 hby (by omega) hl (by rw [hV]; exact Rds.of_lit (by simp) (by intro i x h; rcases i with _ | _ | _ | _ | i <;> simp at h ⊢ <;> first | exact h | omega)) (by simp) (by intro a ha; cases ha; simp; omega) (fun k hk => (show ∀ x ∈ ([120, 130, 150, 500] : List Int), 120 ≤ x ∧ x ≤ 500 by intro x hx; simp at hx; omega) _ (List.getElem_mem hk))).mono ?_
  rintro e W49 ⟨dx48, rfl, hdx48a, hdx48b, hcn, hg⟩
  clear hV
  have hkW49 := hg.size
  have c50 : W49.cell? ⟨w.heap.size, 0, none⟩ = some (.int .i64 0) := (cellRow hg (w.heap.size) 0).trans (by rw [if_pos ⟨by omega, by omega⟩]; exact c40)
  have c51 : W49.cell? ⟨w.heap.size, 1, none⟩ = some (.int .i64 0) := (cellRow hg (w.heap.size) 1).trans (by rw [if_pos ⟨by omega, by omega⟩]; exact c41)
  have c52 : W49.cell? ⟨w.heap.size, 2, none⟩ = some (.int .i64 0) := (cellRow hg (w.heap.size) 2).trans (by rw [if_pos ⟨by omega, by omega⟩]; exact c42)
  have c53 : W49.cell? ⟨w.heap.size, 3, none⟩ = some (.slice none 0 0) := (cellRow hg (w.heap.size) 3).trans (by rw [if_pos ⟨by omega, by omega⟩]; exact c43)
  have c54 : W49.cell? ⟨w.heap.size, 4, none⟩ = some (.slice none 0 0) := (cellRow hg (w.heap.size) 4).trans (by rw [if_pos ⟨by omega, by omega⟩]; exact c44)
  have z55 : ∀ o, W49.frozen? ⟨w.heap.size, o, none⟩ = false := fun o => (frozRow hg (w.heap.size) o).trans (by rw [if_pos ⟨by omega, by omega⟩]; exact z45 o)
  have cu56 : CurS W49 b A cs cap (m + 1 + 1 + 1) := hcn
  have gw57 : w.grownBy W49 (some b) := grown_trans gw47 hg
  have hzgw57 := gw57.size
  have hlcu56 := cu56.lt
  clear c40 c41 c42 c43 c44 z45 cu46 gw47
  clear hg
  have hTB : w.heap.size + 1 ≤ W49.heap.size := by omega
  go_wp2_with (fail)
  refine calls_named ?_
  intro V58 hV
  have hkV58 : W49.heap.size ≤ V58.heap.size := by rw [hV]; first | with_reducible exact Nat.le_refl _ | (simp [World.setCell]; done) | (simp; omega)
  have c59 : V58.cell? ⟨w.heap.size, 0, none⟩ = some (.int .i64 0) := by rw [hV]; first | ((repeat' (first | with_reducible exact c50 | with_reducible refine cellK_drew ?_ | with_reducible refine cellK_alloc ?_ | with_reducible refine cellK_set ?_ (by dsimp only; omega))); done) | (first | (simp [go_sem, ↓IntWalk.iteOmega, *]; done) | (simp [go_sem, ↓IntWalk.iteOmega, *]; intros; omega))
  have c60 : V58.cell? ⟨w.heap.size, 1, none⟩ = some (.int .i64 0) := by rw [hV]; first | ((repeat' (first | with_reducible exact c51 | with_reducible refine cellK_drew ?_ | with_reducible refine cellK_alloc ?_ | with_reducible refine cellK_set ?_ (by dsimp only; omega))); done) | (first | (simp [go_sem, ↓IntWalk.iteOmega, *]; done) | (simp [go_sem, ↓IntWalk.iteOmega, *]; intros; omega))
  have c61 : V58.cell? ⟨w.heap.size, 2, none⟩ = some (.int .i64 0) := by rw [hV]; first | ((repeat' (first | with_reducible exact c52 | with_reducible refine cellK_drew ?_ | with_reducible refine cellK_alloc ?_ | with_reducible refine cellK_set ?_ (by dsimp only; omega))); done) | (first | (simp [go_sem, ↓IntWalk.iteOmega, *]; done) | (simp [go_sem, ↓IntWalk.iteOmega, *]; intros; omega))
  have c62 : V58.cell? ⟨w.heap.size, 3, none⟩ = some (.slice none 0 0) := by rw [hV]; first | ((repeat' (first | with_reducible exact c53 | with_reducible refine cellK_drew ?_ | with_reducible refine cellK_alloc ?_ | with_reducible refine cellK_set ?_ (by dsimp only; omega))); done) | (first | (simp [go_sem, ↓IntWalk.iteOmega, *]; done) | (simp [go_sem, ↓IntWalk.iteOmega, *]; intros; omega))
  have c63 : V58.cell? ⟨w.heap.size, 4, none⟩ = some (.slice none 0 0) := by rw [hV]; first | ((repeat' (first | with_reducible exact c54 | with_reducible refine cellK_drew ?_ | with_reducible refine cellK_alloc ?_ | with_reducible refine cellK_set ?_ (by dsimp only; omega))); done) | (first | (simp [go_sem, ↓IntWalk.iteOmega, *]; done) | (simp [go_sem, ↓IntWalk.iteOmega, *]; intros; omega))
  have z64 : ∀ o, V58.frozen? ⟨w.heap.size, o, none⟩ = false := by rw [hV]; first | ((repeat' (first | with_reducible exact z55 | with_reducible refine frozK_drew ?_ | with_reducible refine frozK_alloc ?_ | with_reducible refine frozK_set ?_)); done) | (intro o; first | (simp [go_sem, ↓IntWalk.iteOmega, *]; done) | (simp [go_sem, ↓IntWalk.iteOmega, *]; intros; omega))
  have cu65 : CurS V58 b A cs cap (m + 1 + 1 + 1) := by rw [hV]; (repeat' (first | with_reducible refine CurS.setc ?_ ?_ | with_reducible refine CurS.allo ?_ | with_reducible refine CurS.drw ?_ | with_reducible exact cu56 | (dsimp only; omega) | (simp; done) | (simp; omega)))
  have gw66 : w.grownBy V58 (some b) := by rw [hV]; (repeat' (first | with_reducible exact World.grownBy.refl _ _ | with_reducible exact gw57 | with_reducible refine grownA ?_ | with_reducible refine grownS ?_ ?_ | with_reducible refine grown_drew ?_ | (dsimp only; omega) | (simp; done) | omega))
  have hzgw66 := gw66.size
  have hlcu65 := cu65.lt
  clear c50 c51 c52 c53 c54 z55 cu56 gw57
  have d67 : V58.cell? ⟨W49.heap.size, 0, none⟩ = some (.int .i64 dx10) := by rw [hV]; first | (simp [go_sem, ↓IntWalk.iteOmega, *]; done) | (simp [go_sem, ↓IntWalk.iteOmega, *]; intros; omega)
  have d68 : V58.cell? ⟨W49.heap.size, 1, none⟩ = some (.int .i64 dx48) := by rw [hV]; first | (simp [go_sem, ↓IntWalk.iteOmega, *]; done) | (simp [go_sem, ↓IntWalk.iteOmega, *]; intros; omega)
  have d69 : V58.cell? ⟨W49.heap.size, 2, none⟩ = some (.int .i64 dx29) := by rw [hV]; first | (simp [go_sem, ↓IntWalk.iteOmega, *]; done) | (simp [go_sem, ↓IntWalk.iteOmega, *]; intros; omega)
  have d70 : V58.cell? ⟨W49.heap.size, 3, none⟩ = some (.slice none 0 0) := by rw [hV]; first | (simp [go_sem, ↓IntWalk.iteOmega, *]; done) | (simp [go_sem, ↓IntWalk.iteOmega, *]; intros; omega)
  have d71 : V58.cell? ⟨W49.heap.size, 4, none⟩ = some (.slice none 0 0) := by rw [hV]; first | (simp [go_sem, ↓IntWalk.iteOmega, *]; done) | (simp [go_sem, ↓IntWalk.iteOmega, *]; intros; omega)
  have e72 : ∀ o, V58.frozen? ⟨W49.heap.size, o, none⟩ = false := by rw [hV]; intro o; first | (simp [go_sem, ↓IntWalk.iteOmega, *]; done) | (simp [go_sem, ↓IntWalk.iteOmega, *]; intros; omega)
  have hTBl : W49.heap.size < V58.heap.size := by rw [hV]; first | (simp; done) | (simp; omega)
  clear hV
  refine (c_pick b A cs cap (m + 1 + 1 + 1) (5) _ cu65 hby (by omega) hl (by omega)).mono ?_
  rintro e W74 ⟨dx73, rfl, hdx73a, hdx73b, hcn, hg⟩
  have hkW74 := hg.size
  have c75 : W74.cell? ⟨w.heap.size, 0, none⟩ = some (.int .i64 0) := (cellRow hg (w.heap.size) 0).trans (by rw [if_pos ⟨by omega, by omega⟩]; exact c59)
  have c76 : W74.cell? ⟨w.heap.size, 1, none⟩ = some (.int .i64 0) := (cellRow hg (w.heap.size) 1).trans (by rw [if_pos ⟨by omega, by omega⟩]; exact c60)
  have c77 : W74.cell? ⟨w.heap.size, 2, none⟩ = some (.int .i64 0) := (cellRow hg (w.heap.size) 2).trans (by rw [if_pos ⟨by omega, by omega⟩]; exact c61)
  have c78 : W74.cell? ⟨w.heap.size, 3, none⟩ = some (.slice none 0 0) := (cellRow hg (w.heap.size) 3).trans (by rw [if_pos ⟨by omega, by omega⟩]; exact c62)
  have c79 : W74.cell? ⟨w.heap.size, 4, none⟩ = some (.slice none 0 0) := (cellRow hg (w.heap.size) 4).trans (by rw [if_pos ⟨by omega, by omega⟩]; exact c63)
  have c80 : W74.cell? ⟨W49.heap.size, 0, none⟩ = some (.int .i64 dx10) := (cellRow hg (W49.heap.size) 0).trans (by rw [if_pos ⟨by omega, by omega⟩]; exact d67)
  have c81 : W74.cell? ⟨W49.heap.size, 1, none⟩ = some (.int .i64 dx48) := (cellRow hg (W49.heap.size) 1).trans (by rw [if_pos ⟨by omega, by omega⟩]; exact d68)
  have c82 : W74.cell? ⟨W49.heap.size, 2, none⟩ = some (.int .i64 dx29) := (cellRow hg (W49.heap.size) 2).trans (by rw [if_pos ⟨by omega, by omega⟩]; exact d69)
  have c83 : W74.cell? ⟨W49.heap.size, 3, none⟩ = some (.slice none 0 0) := (cellRow hg (W49.heap.size) 3).trans (by rw [if_pos ⟨by omega, by omega⟩]; exact d70)
  have c84 : W74.cell? ⟨W49.heap.size, 4, none⟩ = some (.slice none 0 0) := (cellRow hg (W49.heap.size) 4).trans (by rw [if_pos ⟨by omega, by omega⟩]; exact d71)
  have z85 : ∀ o, W74.frozen? ⟨w.heap.size, o, none⟩ = false := fun o => (frozRow hg (w.heap.size) o).trans (by rw [if_pos ⟨by omega, by omega⟩]; exact z64 o)
  have z86 : ∀ o, W74.frozen? ⟨W49.heap.size, o, none⟩ = false := fun o => (frozRow hg (W49.heap.size) o).trans (by rw [if_pos ⟨by omega, by omega⟩]; exact e72 o)
  have cu87 : CurS W74 b A cs cap (m + 1 + 1 + 1 + 1) := hcn
  have gw88 : w.grownBy W74 (some b) := grown_trans gw66 hg
  have hzgw88 := gw88.size
  have hlcu87 := cu87.lt
  clear c59 c60 c61 c62 c63 d67 d68 d69 d70 d71 z64 e72 cu65 gw66
  clear hg
  obtain ⟨j1, hj1⟩ : ∃ j : Nat, 1 + dx73 = j := ⟨(1 + dx73).toNat, by omega⟩
  generalize htb : W49.heap.size = tb at *
  go_wp2_with (fail)
  try rw [hj1]
  go_loopw [4] (fun i wr => ∃ (j : Nat) (A2 : Option Addr) (cp2 : Nat) (fs : List Int), i = .int .i64 j ∧ 1 ≤ fs.length + j ∧ fs.length + j ≤ 5 ∧ wr.cell? ⟨tb, 0, none⟩ = some (.int .i64 dx10) ∧ wr.cell? ⟨tb, 1, none⟩ = some (.int .i64 dx48) ∧ wr.cell? ⟨tb, 2, none⟩ = some (.int .i64 dx29) ∧ wr.cell? ⟨tb, 3, none⟩ = some (.slice A2 fs.length cp2) ∧ wr.cell? ⟨tb, 4, none⟩ = some (.slice none 0 0) ∧ wr.cell? ⟨w.heap.size, 0, none⟩ = some (.int .i64 0) ∧ wr.cell? ⟨w.heap.size, 1, none⟩ = some (.int .i64 0) ∧ wr.cell? ⟨w.heap.size, 2, none⟩ = some (.int .i64 0) ∧ wr.cell? ⟨w.heap.size, 3, none⟩ = some (.slice none 0 0) ∧ wr.cell? ⟨w.heap.size, 4, none⟩ = some (.slice none 0 0) ∧ (∀ o, wr.frozen? ⟨w.heap.size, o, none⟩ = false) ∧ (∀ o, wr.frozen? ⟨tb, o, none⟩ = false) ∧ tb < wr.heap.size ∧ FreshA cIn 1 3 (tb + 1) wr A2 cp2 fs ∧ CurS wr b A cs cap (m + 100 - 12 * (j : Int)) ∧ w.grownBy wr (some b)) (fun i _ => (intOf i).toNat)
  case atStart =>
    exact ⟨j1, none, 0, [], by first | rfl | rw [← hj1], by simp; omega, by simp; omega, c80, c81, c82, c83, c84, c75, c76, c77, c78, c79, z85, z86, by omega, .inl ⟨rfl, rfl, rfl⟩, CurS.mono cu87 (by omega), gw88⟩
  case round =>
    obtain ⟨j, A2, cp2, fs, rfl, hf1, hf5, p0, p1, p2, p3, p4, p5, p6, p7, p8, p9, pz0, pz1, ptl, hF, hcr, hgr⟩ := hrel
    have RF := hid hF
    clear hF
    have hgrz := hgr.size
    have hcrl := hcr.lt
    by_cases hj : j = 0
    rotate_left
    · go_wp2_with (fail)
      refine wp_named ?_
      intro V89 hV
      have hkV89 : wr.heap.size ≤ V89.heap.size := by rw [hV]; first | with_reducible exact Nat.le_refl _ | (simp [World.setCell]; done) | (simp; omega)
      have c90 : V89.cell? ⟨tb, 0, none⟩ = some (.int .i64 dx10) := by rw [hV]; first | ((repeat' (first | with_reducible exact p0 | with_reducible refine cellK_drew ?_ | with_reducible refine cellK_alloc ?_ | with_reducible refine cellK_set ?_ (by dsimp only; omega))); done) | (first | (simp [go_sem, ↓IntWalk.iteOmega, *]; done) | (simp [go_sem, ↓IntWalk.iteOmega, *]; intros; omega))
      have c91 : V89.cell? ⟨tb, 1, none⟩ = some (.int .i64 dx48) := by rw [hV]; first | ((repeat' (first | with_reducible exact p1 | with_reducible refine cellK_drew ?_ | with_reducible refine cellK_alloc ?_ | with_reducible refine cellK_set ?_ (by dsimp only; omega))); done) | (first | (simp [go_sem, ↓IntWalk.iteOmega, *]; done) | (simp [go_sem, ↓IntWalk.iteOmega, *]; intros; omega))
      have c92 : V89.cell? ⟨tb, 2, none⟩ = some (.int .i64 dx29) := by rw [hV]; first | ((repeat' (first | with_reducible exact p2 | with_reducible refine cellK_drew ?_ | with_reducible refine cellK_alloc ?_ | with_reducible refine cellK_set ?_ (by dsimp only; omega))); done) | (first | (simp [go_sem, ↓IntWalk.iteOmega, *]; done) | (simp [go_sem, ↓IntWalk.iteOmega, *]; intros; omega))
      have c93 : V89.cell? ⟨tb, 3, none⟩ = some (.slice A2 fs.length cp2) := by rw [hV]; first | ((repeat' (first | with_reducible exact p3 | with_reducible refine cellK_drew ?_ | with_reducible refine cellK_alloc ?_ | with_reducible refine cellK_set ?_ (by dsimp only; omega))); done) | (first | (simp [go_sem, ↓IntWalk.iteOmega, *]; done) | (simp [go_sem, ↓IntWalk.iteOmega, *]; intros; omega))
      have c94 : V89.cell? ⟨tb, 4, none⟩ = some (.slice none 0 0) := by rw [hV]; first | ((repeat' (first | with_reducible exact p4 | with_reducible refine cellK_drew ?_ | with_reducible refine cellK_alloc ?_ | with_reducible refine cellK_set ?_ (by dsimp only; omega))); done) | (first | (simp [go_sem, ↓IntWalk.iteOmega, *]; done) | (simp [go_sem, ↓IntWalk.iteOmega, *]; intros; omega))
      have c95 : V89.cell? ⟨w.heap.size, 0, none⟩ = some (.int .i64 0) := by rw [hV]; first | ((repeat' (first | with_reducible exact p5 | with_reducible refine cellK_drew ?_ | with_reducible refine cellK_alloc ?_ | with_reducible refine cellK_set ?_ (by dsimp only; omega))); done) | (first | (simp [go_sem, ↓IntWalk.iteOmega, *]; done) | (simp [go_sem, ↓IntWalk.iteOmega, *]; intros; omega))
      have c96 : V89.cell? ⟨w.heap.size, 1, none⟩ = some (.int .i64 0) := by rw [hV]; first | ((repeat' (first | with_reducible exact p6 | with_reducible refine cellK_drew ?_ | with_reducible refine cellK_alloc ?_ | with_reducible refine cellK_set ?_ (by dsimp only; omega))); done) | (first | (simp [go_sem, ↓IntWalk.iteOmega, *]; done) | (simp [go_sem, ↓IntWalk.iteOmega, *]; intros; omega))
      have c97 : V89.cell? ⟨w.heap.size, 2, none⟩ = some (.int .i64 0) := by rw [hV]; first | ((repeat' (first | with_reducible exact p7 | with_reducible refine cellK_drew ?_ | with_reducible refine cellK_alloc ?_ | with_reducible refine cellK_set ?_ (by dsimp only; omega))); done) | (first | (simp [go_sem, ↓IntWalk.iteOmega, *]; done) | (simp [go_sem, ↓IntWalk.iteOmega, *]; intros; omega))
      have c98 : V89.cell? ⟨w.heap.size, 3, none⟩ = some (.slice none 0 0) := by rw [hV]; first | ((repeat' (first | with_reducible exact p8 | with_reducible refine cellK_drew ?_ | with_reducible refine cellK_alloc ?_ | with_reducible refine cellK_set ?_ (by dsimp only; omega))); done) | (first | (simp [go_sem, ↓IntWalk.iteOmega, *]; done) | (simp [go_sem, ↓IntWalk.iteOmega, *]; intros; omega))
      have c99 : V89.cell? ⟨w.heap.size, 4, none⟩ = some (.slice none 0 0) := by rw [hV]; first | ((repeat' (first | with_reducible exact p9 | with_reducible refine cellK_drew ?_ | with_reducible refine cellK_alloc ?_ | with_reducible refine cellK_set ?_ (by dsimp only; omega))); done) | (first | (simp [go_sem, ↓IntWalk.iteOmega, *]; done) | (simp [go_sem, ↓IntWalk.iteOmega, *]; intros; omega))
      have z100 : ∀ o, V89.frozen? ⟨w.heap.size, o, none⟩ = false := by rw [hV]; first | ((repeat' (first | with_reducible exact pz0 | with_reducible refine frozK_drew ?_ | with_reducible refine frozK_alloc ?_ | with_reducible refine frozK_set ?_)); done) | (intro o; first | (simp [go_sem, ↓IntWalk.iteOmega, *]; done) | (simp [go_sem, ↓IntWalk.iteOmega, *]; intros; omega))
      have z101 : ∀ o, V89.frozen? ⟨tb, o, none⟩ = false := by rw [hV]; first | ((repeat' (first | with_reducible exact pz1 | with_reducible refine frozK_drew ?_ | with_reducible refine frozK_alloc ?_ | with_reducible refine frozK_set ?_)); done) | (intro o; first | (simp [go_sem, ↓IntWalk.iteOmega, *]; done) | (simp [go_sem, ↓IntWalk.iteOmega, *]; intros; omega))
      have R102 : Hid (FreshA cIn 1 3 (tb + 1) V89 A2 cp2 fs) := hid (by rw [hV]; (repeat' (first | with_reducible exact RF.out | with_reducible refine FreshA.set_at ?_ (by assumption) _ | with_reducible refine FreshA.set_low ?_ ?_ _ | with_reducible refine FreshA.below ?_ (Below.drew (Below.refl _ _)) | with_reducible refine FreshA.below ?_ (Below.alloc (Below.refl _ _) (Nat.le_refl _) _) | (dsimp only; omega) | (simp; done) | (simp; omega))))
      have cu103 : CurS V89 b A cs cap (m + 100 - 12 * (j : Int)) := by rw [hV]; (repeat' (first | with_reducible refine CurS.setc ?_ ?_ | with_reducible refine CurS.allo ?_ | with_reducible refine CurS.drw ?_ | with_reducible exact hcr | (dsimp only; omega) | (simp; done) | (simp; omega)))
      have gw104 : w.grownBy V89 (some b) := by rw [hV]; (repeat' (first | with_reducible exact World.grownBy.refl _ _ | with_reducible exact hgr | with_reducible refine grownA ?_ | with_reducible refine grownS ?_ ?_ | with_reducible refine grown_drew ?_ | (dsimp only; omega) | (simp; done) | omega))
      have hzgw104 := gw104.size
      have hlcu103 := cu103.lt
      clear p0 p1 p2 p3 p4 p5 p6 p7 p8 p9 pz0 pz1 RF hcr hgr
      clear hV
      refine wp_region_c (n := 6) b (fun k w' => CurS w' b A cs cap (m + 100 - 12 * (j : Int) + k)) [] (FSa b tb A2 fs.length cp2) rfl (by kernel_rfl) (fun _ _ d _ _ h => by cases d <;> exact h) (CurS.mono (CurS.drw cu103) (by omega)) ?_ (fun i hi => absurd hi (by simp)) ?_ ?_
      · intro iq v w1 w2 hF hg
        match iq with
        | 0 => exact hF
        | 1 => exact hF
        | 2 => exact hF
        | 3 => exact hF.keep hg
        | 4 => exact hF
        | 5 => exact hF.keep hg
        | q + 6 => exact (show True from trivial)
      · intro iq o hi ho vals k w1 hk hT hgW hf
        match iq, hi with
        | 0, _ =>
          injection ho with ho
          subst ho
          clear hf
          have hz1 := hgW.size
          have hlt1 := CurS.lt hT
          simp only [fillA, List.take, List.drop, put_none, Act.put, List.setIfInBounds_toArray, List.set_cons_zero, List.set_cons_succ, Nat.reduceAdd]
          go_wp2_with (fail)
          exact ⟨rfl, rfl, World.grownBy.refl _ _, CurS.mono hT (by omega), (by first | rfl | (simp [FSa]; done) | (simp [FSa, *]; done) | (simp [FSa, gotV]; done) | (simp [FSa, gotV, *]; done)), fun h => absurd h (by decide)⟩
        | 1, _ =>
          injection ho with ho
          subst ho
          have e0 : vals 0 = .pointer (some ⟨tb, 3, none⟩) := hf 0 (by decide) (by kernel_rfl)
          clear hf
          have hz1 := hgW.size
          have hlt1 := CurS.lt hT
          simp only [fillA, List.take, List.drop, put_none, Act.put, List.setIfInBounds_toArray, List.set_cons_zero, List.set_cons_succ, Nat.reduceAdd, e0]
          have k0 : w1.cell? ⟨tb, 0, none⟩ = some (.int .i64 dx10) := (cellRow hgW (tb) 0).trans (by rw [if_pos ⟨by omega, by omega⟩]; exact c90)
          have k1 : w1.cell? ⟨tb, 1, none⟩ = some (.int .i64 dx48) := (cellRow hgW (tb) 1).trans (by rw [if_pos ⟨by omega, by omega⟩]; exact c91)
          have k2 : w1.cell? ⟨tb, 2, none⟩ = some (.int .i64 dx29) := (cellRow hgW (tb) 2).trans (by rw [if_pos ⟨by omega, by omega⟩]; exact c92)
          have k3 : w1.cell? ⟨tb, 3, none⟩ = some (.slice A2 fs.length cp2) := (cellRow hgW (tb) 3).trans (by rw [if_pos ⟨by omega, by omega⟩]; exact c93)
          have k4 : w1.cell? ⟨tb, 4, none⟩ = some (.slice none 0 0) := (cellRow hgW (tb) 4).trans (by rw [if_pos ⟨by omega, by omega⟩]; exact c94)
          go_wp2_with (fail)
          exact ⟨rfl, rfl, World.grownBy.refl _ _, CurS.mono hT (by omega), (by first | rfl | (simp [FSa]; done) | (simp [FSa, *]; done) | (simp [FSa, gotV]; done) | (simp [FSa, gotV, *]; done)), fun h => absurd h (by decide)⟩
        | 2, _ =>
          injection ho with ho
          subst ho
          clear hf
          have hz1 := hgW.size
          have hlt1 := CurS.lt hT
          simp only [fillA, List.take, List.drop, put_none, Act.put, List.setIfInBounds_toArray, List.set_cons_zero, List.set_cons_succ, Nat.reduceAdd]
          go_wp2_with (fail)
          exact ⟨rfl, rfl, World.grownBy.refl _ _, CurS.mono hT (by omega), (by first | rfl | (simp [FSa]; done) | (simp [FSa, *]; done) | (simp [FSa, gotV]; done) | (simp [FSa, gotV, *]; done)), fun h => absurd h (by decide)⟩
        | 3, _ =>
          injection ho with ho
          subst ho
          clear hf
          have hz1 := hgW.size
          have hlt1 := CurS.lt hT
          simp only [fillA, List.take, List.drop, put_none, Act.put, List.setIfInBounds_toArray, List.set_cons_zero, List.set_cons_succ, Nat.reduceAdd]
          go_wp2_with (fail)
          exact ⟨rfl, rfl, grownA (World.grownBy.refl _ _), CurS.mono (CurS.allo hT) (by omega), ⟨_, rfl, by omega, heap_alloc_new _ _⟩, fun h => absurd h (by decide)⟩
        | 4, _ =>
          injection ho with ho
          subst ho
          have e2 : vals 2 = .pointer (some ⟨b, 0, none⟩) := hf 2 (by decide) (by kernel_rfl)
          obtain ⟨g3, e3, hB3, hh3⟩ := hf 3 (by decide) (by kernel_rfl)
          clear hf
          have hz1 := hgW.size
          have hlt1 := CurS.lt hT
          simp only [fillA, List.take, List.drop, put_none, Act.put, List.setIfInBounds_toArray, List.set_cons_zero, List.set_cons_succ, Nat.reduceAdd, e2, e3]
          go_wp2_with (go_at_call 82; refine (c_among b A cs cap (m + 100 - 12 * (j : Int) + k) _ ([0, 5, 10, 20, 50, -10, -50] : List Int) _ (-50) (50) _ hT hby (by omega) hl (Rds.of_block hh3 (by intro i x h; rcases i with _ | _ | _ | _ | _ | _ | _ | i <;> simp at h ⊢ <;> first | exact h | omega)) (by simp) (by intro a ha; cases ha; simp; omega) (fun k hk => (show ∀ x ∈ ([0, 5, 10, 20, 50, -10, -50] : List Int), -50 ≤ x ∧ x ≤ 50 by intro x hx; simp at hx; omega) _ (List.getElem_mem hk))).mono ?_; rintro e w9 ⟨x9, rfl, hx9a, hx9b, hcu9, hg9⟩)
          exact RQO_of (.int .i64 x9) rfl (by first | rfl | (simp [gotV]; done) | (simp [gotV, *]; done)) ⟨hg9, CurS.mono hcu9 (by omega), ⟨x9, rfl, hx9a, hx9b⟩, fun h => absurd h (by decide)⟩
        | 5, _ =>
          injection ho with ho
          subst ho
          obtain ⟨x4, e4, hxa4, hxb4⟩ := hf 4 (by decide) (by kernel_rfl)
          clear hf
          have hz1 := hgW.size
          have hlt1 := CurS.lt hT
          simp only [fillA, List.take, List.drop, put_none, Act.put, List.setIfInBounds_toArray, List.set_cons_zero, List.set_cons_succ, Nat.reduceAdd, e4]
          go_wp2_with (fail)
          exact ⟨rfl, rfl, grownA (World.grownBy.refl _ _), CurS.mono (CurS.allo hT) (by omega), ⟨x4, _, rfl, by omega, heap_alloc_new _ _⟩, fun h => absurd h (by decide)⟩
        | q + 6, h => exact absurd h (by omega)
      · intro vals W5 hT hgW hf hd
        have e0 : vals 0 = .pointer (some ⟨tb, 3, none⟩) := hf 0 (by decide)
        have e1 : vals 1 = .slice A2 fs.length cp2 := hf 1 (by decide)
        have e2 : vals 2 = .pointer (some ⟨b, 0, none⟩) := hf 2 (by decide)
        obtain ⟨g3, e3, hB3, hh3⟩ := hf 3 (by decide)
        obtain ⟨x4, e4, hxa4, hxb4⟩ := hf 4 (by decide)
        obtain ⟨q5, g5, e5, hB5, hh5⟩ := hf 5 (by decide)
        clear hf hd
        simp only [fillA, List.take, List.drop, put_none, Act.put, List.setIfInBounds_toArray, List.set_cons_zero, List.set_cons_succ, Nat.reduceAdd, e0, e1, e2, e3, e4, e5]
        have hkW5 := hgW.size
        have c105 : W5.cell? ⟨tb, 0, none⟩ = some (.int .i64 dx10) := (cellRow hgW (tb) 0).trans (by rw [if_pos ⟨by omega, by omega⟩]; exact c90)
        have c106 : W5.cell? ⟨tb, 1, none⟩ = some (.int .i64 dx48) := (cellRow hgW (tb) 1).trans (by rw [if_pos ⟨by omega, by omega⟩]; exact c91)
        have c107 : W5.cell? ⟨tb, 2, none⟩ = some (.int .i64 dx29) := (cellRow hgW (tb) 2).trans (by rw [if_pos ⟨by omega, by omega⟩]; exact c92)
        have c108 : W5.cell? ⟨tb, 3, none⟩ = some (.slice A2 fs.length cp2) := (cellRow hgW (tb) 3).trans (by rw [if_pos ⟨by omega, by omega⟩]; exact c93)
        have c109 : W5.cell? ⟨tb, 4, none⟩ = some (.slice none 0 0) := (cellRow hgW (tb) 4).trans (by rw [if_pos ⟨by omega, by omega⟩]; exact c94)
        have c110 : W5.cell? ⟨w.heap.size, 0, none⟩ = some (.int .i64 0) := (cellRow hgW (w.heap.size) 0).trans (by rw [if_pos ⟨by omega, by omega⟩]; exact c95)
        have c111 : W5.cell? ⟨w.heap.size, 1, none⟩ = some (.int .i64 0) := (cellRow hgW (w.heap.size) 1).trans (by rw [if_pos ⟨by omega, by omega⟩]; exact c96)
        have c112 : W5.cell? ⟨w.heap.size, 2, none⟩ = some (.int .i64 0) := (cellRow hgW (w.heap.size) 2).trans (by rw [if_pos ⟨by omega, by omega⟩]; exact c97)
        have c113 : W5.cell? ⟨w.heap.size, 3, none⟩ = some (.slice none 0 0) := (cellRow hgW (w.heap.size) 3).trans (by rw [if_pos ⟨by omega, by omega⟩]; exact c98)
        have c114 : W5.cell? ⟨w.heap.size, 4, none⟩ = some (.slice none 0 0) := (cellRow hgW (w.heap.size) 4).trans (by rw [if_pos ⟨by omega, by omega⟩]; exact c99)
        have z115 : ∀ o, W5.frozen? ⟨w.heap.size, o, none⟩ = false := fun o => (frozRow hgW (w.heap.size) o).trans (by rw [if_pos ⟨by omega, by omega⟩]; exact z100 o)
        have z116 : ∀ o, W5.frozen? ⟨tb, o, none⟩ = false := fun o => (frozRow hgW (tb) o).trans (by rw [if_pos ⟨by omega, by omega⟩]; exact z101 o)
        have R117 : Hid (FreshA cIn 1 3 (tb + 1) W5 A2 cp2 fs) := hid (FreshA.rowb R102.out hgW (by omega))
        have cu118 : CurS W5 b A cs cap (m + 100 - 12 * (j : Int) + 6) := hT
        have gw119 : w.grownBy W5 (some b) := grown_trans gw104 hgW
        have hzgw119 := gw119.size
        have hlcu118 := cu118.lt
        clear c90 c91 c92 c93 c94 c95 c96 c97 c98 c99 z100 z101 R102 cu103 gw104
        clear hgW
        refine wpList_pushesR (xs := fs) rfl (.tmp 24) (.tmp 28) 22 rfl 3 i0 _ 8 Try.underlying22 hI0 hI1 hI2 hI3 rfl (by decide) (fun _ => rfl) one_In _ rfl rfl R117.out [q5] 1 rfl (some ⟨g5, 0, none⟩) _ rfl (Rds.ofBox hh5) (by unfold maxLen; omega) (by first | omega | (simp; omega)) (by omega) ?_
        intro A5 cp5 W6 hF3 hg3 hat3
        have hkW6 := hg3.size
        have hlo := R117.out.lo
        have c120 : W6.cell? ⟨tb, 0, none⟩ = some (.int .i64 dx10) := (World.cell?_of_block (a := ⟨tb, 0, none⟩) (hg3.block (tb) (by omega) (ne_blk hlo (by omega)))).trans c105
        have c121 : W6.cell? ⟨tb, 1, none⟩ = some (.int .i64 dx48) := (World.cell?_of_block (a := ⟨tb, 1, none⟩) (hg3.block (tb) (by omega) (ne_blk hlo (by omega)))).trans c106
        have c122 : W6.cell? ⟨tb, 2, none⟩ = some (.int .i64 dx29) := (World.cell?_of_block (a := ⟨tb, 2, none⟩) (hg3.block (tb) (by omega) (ne_blk hlo (by omega)))).trans c107
        have c123 : W6.cell? ⟨tb, 3, none⟩ = some (.slice A2 fs.length cp2) := (World.cell?_of_block (a := ⟨tb, 3, none⟩) (hg3.block (tb) (by omega) (ne_blk hlo (by omega)))).trans c108
        have c124 : W6.cell? ⟨tb, 4, none⟩ = some (.slice none 0 0) := (World.cell?_of_block (a := ⟨tb, 4, none⟩) (hg3.block (tb) (by omega) (ne_blk hlo (by omega)))).trans c109
        have c125 : W6.cell? ⟨w.heap.size, 0, none⟩ = some (.int .i64 0) := (World.cell?_of_block (a := ⟨w.heap.size, 0, none⟩) (hg3.block (w.heap.size) (by omega) (ne_blk hlo (by omega)))).trans c110
        have c126 : W6.cell? ⟨w.heap.size, 1, none⟩ = some (.int .i64 0) := (World.cell?_of_block (a := ⟨w.heap.size, 1, none⟩) (hg3.block (w.heap.size) (by omega) (ne_blk hlo (by omega)))).trans c111
        have c127 : W6.cell? ⟨w.heap.size, 2, none⟩ = some (.int .i64 0) := (World.cell?_of_block (a := ⟨w.heap.size, 2, none⟩) (hg3.block (w.heap.size) (by omega) (ne_blk hlo (by omega)))).trans c112
        have c128 : W6.cell? ⟨w.heap.size, 3, none⟩ = some (.slice none 0 0) := (World.cell?_of_block (a := ⟨w.heap.size, 3, none⟩) (hg3.block (w.heap.size) (by omega) (ne_blk hlo (by omega)))).trans c113
        have c129 : W6.cell? ⟨w.heap.size, 4, none⟩ = some (.slice none 0 0) := (World.cell?_of_block (a := ⟨w.heap.size, 4, none⟩) (hg3.block (w.heap.size) (by omega) (ne_blk hlo (by omega)))).trans c114
        have z130 : ∀ o, W6.frozen? ⟨w.heap.size, o, none⟩ = false := fun o => (World.frozen?_of_block (a := ⟨w.heap.size, o, none⟩) (hg3.block (w.heap.size) (by omega) (ne_blk hlo (by omega)))).trans (z115 o)
        have z131 : ∀ o, W6.frozen? ⟨tb, o, none⟩ = false := fun o => (World.frozen?_of_block (a := ⟨tb, o, none⟩) (hg3.block (tb) (by omega) (ne_blk hlo (by omega)))).trans (z116 o)
        have R132 : Hid (FreshA cIn 1 3 (tb + 1) W6 A5 cp5 (fs ++ [q5])) := hid (hF3)
        have cu133 : CurS W6 b A cs cap (m + 100 - 12 * (j : Int) + 6) := CurS.other cu118 hg3 hlo (by omega)
        have gw134 : w.grownBy W6 (some b) := grown_other gw119 hg3 (hlo.mono (by omega))
        have hzgw134 := gw134.size
        have hlcu133 := cu133.lt
        clear c105 c106 c107 c108 c109 c110 c111 c112 c113 c114 z115 z116 R117 cu118 gw119
        clear hlo
        clear hF3 hg3 hat3
        have hl5 : (fs ++ [q5]).length = fs.length + 1 := by simp
        go_wp2_with (fail)
        go_roundw
        case rel =>
          refine ⟨j - 1, A5, cp5, fs ++ [q5], by first | go_num | (congr 1; omega), by simp; omega, by simp; omega, ?_, ?_, ?_, ?_, ?_, ?_, ?_, ?_, ?_, ?_, ?_, ?_, by simp; omega, ?_, ?_, ?_⟩
          · first | ((repeat' (first | with_reducible exact c120 | with_reducible refine cellK_drew ?_ | with_reducible refine cellK_alloc ?_ | with_reducible refine cellK_set ?_ (by dsimp only; omega))); done) | (first | (simp [go_sem, ↓IntWalk.iteOmega, *]; done) | (simp [go_sem, ↓IntWalk.iteOmega, *]; intros; omega))
          · first | ((repeat' (first | with_reducible exact c121 | with_reducible refine cellK_drew ?_ | with_reducible refine cellK_alloc ?_ | with_reducible refine cellK_set ?_ (by dsimp only; omega))); done) | (first | (simp [go_sem, ↓IntWalk.iteOmega, *]; done) | (simp [go_sem, ↓IntWalk.iteOmega, *]; intros; omega))
          · first | ((repeat' (first | with_reducible exact c122 | with_reducible refine cellK_drew ?_ | with_reducible refine cellK_alloc ?_ | with_reducible refine cellK_set ?_ (by dsimp only; omega))); done) | (first | (simp [go_sem, ↓IntWalk.iteOmega, *]; done) | (simp [go_sem, ↓IntWalk.iteOmega, *]; intros; omega))
          · first | (simp [go_sem, ↓IntWalk.iteOmega, *]; done) | (simp [go_sem, ↓IntWalk.iteOmega, *]; intros; omega)
          · first | ((repeat' (first | with_reducible exact c124 | with_reducible refine cellK_drew ?_ | with_reducible refine cellK_alloc ?_ | with_reducible refine cellK_set ?_ (by dsimp only; omega))); done) | (first | (simp [go_sem, ↓IntWalk.iteOmega, *]; done) | (simp [go_sem, ↓IntWalk.iteOmega, *]; intros; omega))
          · first | ((repeat' (first | with_reducible exact c125 | with_reducible refine cellK_drew ?_ | with_reducible refine cellK_alloc ?_ | with_reducible refine cellK_set ?_ (by dsimp only; omega))); done) | (first | (simp [go_sem, ↓IntWalk.iteOmega, *]; done) | (simp [go_sem, ↓IntWalk.iteOmega, *]; intros; omega))
          · first | ((repeat' (first | with_reducible exact c126 | with_reducible refine cellK_drew ?_ | with_reducible refine cellK_alloc ?_ | with_reducible refine cellK_set ?_ (by dsimp only; omega))); done) | (first | (simp [go_sem, ↓IntWalk.iteOmega, *]; done) | (simp [go_sem, ↓IntWalk.iteOmega, *]; intros; omega))
          · first | ((repeat' (first | with_reducible exact c127 | with_reducible refine cellK_drew ?_ | with_reducible refine cellK_alloc ?_ | with_reducible refine cellK_set ?_ (by dsimp only; omega))); done) | (first | (simp [go_sem, ↓IntWalk.iteOmega, *]; done) | (simp [go_sem, ↓IntWalk.iteOmega, *]; intros; omega))
          · first | ((repeat' (first | with_reducible exact c128 | with_reducible refine cellK_drew ?_ | with_reducible refine cellK_alloc ?_ | with_reducible refine cellK_set ?_ (by dsimp only; omega))); done) | (first | (simp [go_sem, ↓IntWalk.iteOmega, *]; done) | (simp [go_sem, ↓IntWalk.iteOmega, *]; intros; omega))
          · first | ((repeat' (first | with_reducible exact c129 | with_reducible refine cellK_drew ?_ | with_reducible refine cellK_alloc ?_ | with_reducible refine cellK_set ?_ (by dsimp only; omega))); done) | (first | (simp [go_sem, ↓IntWalk.iteOmega, *]; done) | (simp [go_sem, ↓IntWalk.iteOmega, *]; intros; omega))
          · first | ((repeat' (first | with_reducible exact z130 | with_reducible refine frozK_drew ?_ | with_reducible refine frozK_alloc ?_ | with_reducible refine frozK_set ?_)); done) | (intro o; first | (simp [go_sem, ↓IntWalk.iteOmega, *]; done) | (simp [go_sem, ↓IntWalk.iteOmega, *]; intros; omega))
          · first | ((repeat' (first | with_reducible exact z131 | with_reducible refine frozK_drew ?_ | with_reducible refine frozK_alloc ?_ | with_reducible refine frozK_set ?_)); done) | (intro o; first | (simp [go_sem, ↓IntWalk.iteOmega, *]; done) | (simp [go_sem, ↓IntWalk.iteOmega, *]; intros; omega))
          · (repeat' (first | with_reducible exact R132.out | with_reducible refine FreshA.set_at ?_ (by assumption) _ | with_reducible refine FreshA.set_low ?_ ?_ _ | with_reducible refine FreshA.below ?_ (Below.drew (Below.refl _ _)) | with_reducible refine FreshA.below ?_ (Below.alloc (Below.refl _ _) (Nat.le_refl _) _) | (dsimp only; omega) | (simp; done) | (simp; omega)))
          · refine CurS.mono ?_ (m := m + 100 - 12 * (j : Int) + 6) (by omega)
            (repeat' (first | with_reducible refine CurS.setc ?_ ?_ | with_reducible refine CurS.allo ?_ | with_reducible refine CurS.drw ?_ | with_reducible exact cu133 | (dsimp only; omega) | (simp; done) | (simp; omega)))
          · (repeat' (first | with_reducible exact World.grownBy.refl _ _ | with_reducible exact gw134 | with_reducible refine grownA ?_ | with_reducible refine grownS ?_ ?_ | with_reducible refine grown_drew ?_ | (dsimp only; omega) | (simp; done) | omega))
        case measure => simp [intOf]; omega
    subst hj
    simp only [Nat.add_zero] at hf1 hf5
    have hcs : CurS wr b A cs cap (m + 100) := CurS.mono hcr (by omega)
    go_wp2_with (fail)
    refine calls_named ?_
    intro V136 hV
    have hkV136 : wr.heap.size ≤ V136.heap.size := by rw [hV]; first | with_reducible exact Nat.le_refl _ | (simp [World.setCell]; done) | (simp; omega)
    have c137 : V136.cell? ⟨tb, 0, none⟩ = some (.int .i64 dx10) := by rw [hV]; first | ((repeat' (first | with_reducible exact p0 | with_reducible refine cellK_drew ?_ | with_reducible refine cellK_alloc ?_ | with_reducible refine cellK_set ?_ (by dsimp only; omega))); done) | (first | (simp [go_sem, ↓IntWalk.iteOmega, *]; done) | (simp [go_sem, ↓IntWalk.iteOmega, *]; intros; omega))
    have c138 : V136.cell? ⟨tb, 1, none⟩ = some (.int .i64 dx48) := by rw [hV]; first | ((repeat' (first | with_reducible exact p1 | with_reducible refine cellK_drew ?_ | with_reducible refine cellK_alloc ?_ | with_reducible refine cellK_set ?_ (by dsimp only; omega))); done) | (first | (simp [go_sem, ↓IntWalk.iteOmega, *]; done) | (simp [go_sem, ↓IntWalk.iteOmega, *]; intros; omega))
    have c139 : V136.cell? ⟨tb, 2, none⟩ = some (.int .i64 dx29) := by rw [hV]; first | ((repeat' (first | with_reducible exact p2 | with_reducible refine cellK_drew ?_ | with_reducible refine cellK_alloc ?_ | with_reducible refine cellK_set ?_ (by dsimp only; omega))); done) | (first | (simp [go_sem, ↓IntWalk.iteOmega, *]; done) | (simp [go_sem, ↓IntWalk.iteOmega, *]; intros; omega))
    have c140 : V136.cell? ⟨tb, 3, none⟩ = some (.slice A2 fs.length cp2) := by rw [hV]; first | ((repeat' (first | with_reducible exact p3 | with_reducible refine cellK_drew ?_ | with_reducible refine cellK_alloc ?_ | with_reducible refine cellK_set ?_ (by dsimp only; omega))); done) | (first | (simp [go_sem, ↓IntWalk.iteOmega, *]; done) | (simp [go_sem, ↓IntWalk.iteOmega, *]; intros; omega))
    have c141 : V136.cell? ⟨tb, 4, none⟩ = some (.slice none 0 0) := by rw [hV]; first | ((repeat' (first | with_reducible exact p4 | with_reducible refine cellK_drew ?_ | with_reducible refine cellK_alloc ?_ | with_reducible refine cellK_set ?_ (by dsimp only; omega))); done) | (first | (simp [go_sem, ↓IntWalk.iteOmega, *]; done) | (simp [go_sem, ↓IntWalk.iteOmega, *]; intros; omega))
    have c142 : V136.cell? ⟨w.heap.size, 0, none⟩ = some (.int .i64 0) := by rw [hV]; first | ((repeat' (first | with_reducible exact p5 | with_reducible refine cellK_drew ?_ | with_reducible refine cellK_alloc ?_ | with_reducible refine cellK_set ?_ (by dsimp only; omega))); done) | (first | (simp [go_sem, ↓IntWalk.iteOmega, *]; done) | (simp [go_sem, ↓IntWalk.iteOmega, *]; intros; omega))
    have c143 : V136.cell? ⟨w.heap.size, 1, none⟩ = some (.int .i64 0) := by rw [hV]; first | ((repeat' (first | with_reducible exact p6 | with_reducible refine cellK_drew ?_ | with_reducible refine cellK_alloc ?_ | with_reducible refine cellK_set ?_ (by dsimp only; omega))); done) | (first | (simp [go_sem, ↓IntWalk.iteOmega, *]; done) | (simp [go_sem, ↓IntWalk.iteOmega, *]; intros; omega))
    have c144 : V136.cell? ⟨w.heap.size, 2, none⟩ = some (.int .i64 0) := by rw [hV]; first | ((repeat' (first | with_reducible exact p7 | with_reducible refine cellK_drew ?_ | with_reducible refine cellK_alloc ?_ | with_reducible refine cellK_set ?_ (by dsimp only; omega))); done) | (first | (simp [go_sem, ↓IntWalk.iteOmega, *]; done) | (simp [go_sem, ↓IntWalk.iteOmega, *]; intros; omega))
    have c145 : V136.cell? ⟨w.heap.size, 3, none⟩ = some (.slice none 0 0) := by rw [hV]; first | ((repeat' (first | with_reducible exact p8 | with_reducible refine cellK_drew ?_ | with_reducible refine cellK_alloc ?_ | with_reducible refine cellK_set ?_ (by dsimp only; omega))); done) | (first | (simp [go_sem, ↓IntWalk.iteOmega, *]; done) | (simp [go_sem, ↓IntWalk.iteOmega, *]; intros; omega))
    have c146 : V136.cell? ⟨w.heap.size, 4, none⟩ = some (.slice none 0 0) := by rw [hV]; first | ((repeat' (first | with_reducible exact p9 | with_reducible refine cellK_drew ?_ | with_reducible refine cellK_alloc ?_ | with_reducible refine cellK_set ?_ (by dsimp only; omega))); done) | (first | (simp [go_sem, ↓IntWalk.iteOmega, *]; done) | (simp [go_sem, ↓IntWalk.iteOmega, *]; intros; omega))
    have z147 : ∀ o, V136.frozen? ⟨w.heap.size, o, none⟩ = false := by rw [hV]; first | ((repeat' (first | with_reducible exact pz0 | with_reducible refine frozK_drew ?_ | with_reducible refine frozK_alloc ?_ | with_reducible refine frozK_set ?_)); done) | (intro o; first | (simp [go_sem, ↓IntWalk.iteOmega, *]; done) | (simp [go_sem, ↓IntWalk.iteOmega, *]; intros; omega))
    have z148 : ∀ o, V136.frozen? ⟨tb, o, none⟩ = false := by rw [hV]; first | ((repeat' (first | with_reducible exact pz1 | with_reducible refine frozK_drew ?_ | with_reducible refine frozK_alloc ?_ | with_reducible refine frozK_set ?_)); done) | (intro o; first | (simp [go_sem, ↓IntWalk.iteOmega, *]; done) | (simp [go_sem, ↓IntWalk.iteOmega, *]; intros; omega))
    have R149 : Hid (FreshA cIn 1 3 (tb + 1) V136 A2 cp2 fs) := hid (by rw [hV]; (repeat' (first | with_reducible exact RF.out | with_reducible refine FreshA.set_at ?_ (by assumption) _ | with_reducible refine FreshA.set_low ?_ ?_ _ | with_reducible refine FreshA.below ?_ (Below.drew (Below.refl _ _)) | with_reducible refine FreshA.below ?_ (Below.alloc (Below.refl _ _) (Nat.le_refl _) _) | (dsimp only; omega) | (simp; done) | (simp; omega))))
    have cu150 : CurS V136 b A cs cap (m + 100) := by rw [hV]; (repeat' (first | with_reducible refine CurS.setc ?_ ?_ | with_reducible refine CurS.allo ?_ | with_reducible refine CurS.drw ?_ | with_reducible exact hcs | (dsimp only; omega) | (simp; done) | (simp; omega)))
    have gw151 : w.grownBy V136 (some b) := by rw [hV]; (repeat' (first | with_reducible exact World.grownBy.refl _ _ | with_reducible exact hgr | with_reducible refine grownA ?_ | with_reducible refine grownS ?_ ?_ | with_reducible refine grown_drew ?_ | (dsimp only; omega) | (simp; done) | omega))
    have hzgw151 := gw151.size
    have hlcu150 := cu150.lt
    clear p0 p1 p2 p3 p4 p5 p6 p7 p8 p9 pz0 pz1 RF hcs hgr
    clear hV
    refine (c_pick b A cs cap (m + 100) (3) _ cu150 hby (by omega) hl (by omega)).mono ?_
    rintro e W152 ⟨dx135, rfl, hdx135a, hdx135b, hcn, hg⟩
    have hkW152 := hg.size
    have c153 : W152.cell? ⟨tb, 0, none⟩ = some (.int .i64 dx10) := (cellRow hg (tb) 0).trans (by rw [if_pos ⟨by omega, by omega⟩]; exact c137)
    have c154 : W152.cell? ⟨tb, 1, none⟩ = some (.int .i64 dx48) := (cellRow hg (tb) 1).trans (by rw [if_pos ⟨by omega, by omega⟩]; exact c138)
    have c155 : W152.cell? ⟨tb, 2, none⟩ = some (.int .i64 dx29) := (cellRow hg (tb) 2).trans (by rw [if_pos ⟨by omega, by omega⟩]; exact c139)
    have c156 : W152.cell? ⟨tb, 3, none⟩ = some (.slice A2 fs.length cp2) := (cellRow hg (tb) 3).trans (by rw [if_pos ⟨by omega, by omega⟩]; exact c140)
    have c157 : W152.cell? ⟨tb, 4, none⟩ = some (.slice none 0 0) := (cellRow hg (tb) 4).trans (by rw [if_pos ⟨by omega, by omega⟩]; exact c141)
    have c158 : W152.cell? ⟨w.heap.size, 0, none⟩ = some (.int .i64 0) := (cellRow hg (w.heap.size) 0).trans (by rw [if_pos ⟨by omega, by omega⟩]; exact c142)
    have c159 : W152.cell? ⟨w.heap.size, 1, none⟩ = some (.int .i64 0) := (cellRow hg (w.heap.size) 1).trans (by rw [if_pos ⟨by omega, by omega⟩]; exact c143)
    have c160 : W152.cell? ⟨w.heap.size, 2, none⟩ = some (.int .i64 0) := (cellRow hg (w.heap.size) 2).trans (by rw [if_pos ⟨by omega, by omega⟩]; exact c144)
    have c161 : W152.cell? ⟨w.heap.size, 3, none⟩ = some (.slice none 0 0) := (cellRow hg (w.heap.size) 3).trans (by rw [if_pos ⟨by omega, by omega⟩]; exact c145)
    have c162 : W152.cell? ⟨w.heap.size, 4, none⟩ = some (.slice none 0 0) := (cellRow hg (w.heap.size) 4).trans (by rw [if_pos ⟨by omega, by omega⟩]; exact c146)
    have z163 : ∀ o, W152.frozen? ⟨w.heap.size, o, none⟩ = false := fun o => (frozRow hg (w.heap.size) o).trans (by rw [if_pos ⟨by omega, by omega⟩]; exact z147 o)
    have z164 : ∀ o, W152.frozen? ⟨tb, o, none⟩ = false := fun o => (frozRow hg (tb) o).trans (by rw [if_pos ⟨by omega, by omega⟩]; exact z148 o)
    have R165 : Hid (FreshA cIn 1 3 (tb + 1) W152 A2 cp2 fs) := hid (FreshA.rowb R149.out hg (by omega))
    have cu166 : CurS W152 b A cs cap (m + 100 + 1) := hcn
    have gw167 : w.grownBy W152 (some b) := grown_trans gw151 hg
    have hzgw167 := gw167.size
    have hlcu166 := cu166.lt
    clear c137 c138 c139 c140 c141 c142 c143 c144 c145 c146 z147 z148 R149 cu150 gw151
    clear hg
    obtain ⟨j2, rfl⟩ : ∃ j : Nat, dx135 = j := ⟨dx135.toNat, by omega⟩
    go_wp2_with (fail)
    go_loopw [5] (fun i wr => ∃ (j : Nat) (A3 : Option Addr) (cp3 : Nat) (ps : List (Int × Int × Int)), i = .int .i64 j ∧ ps.length + j ≤ 2 ∧ wr.cell? ⟨tb, 0, none⟩ = some (.int .i64 dx10) ∧ wr.cell? ⟨tb, 1, none⟩ = some (.int .i64 dx48) ∧ wr.cell? ⟨tb, 2, none⟩ = some (.int .i64 dx29) ∧ wr.cell? ⟨tb, 3, none⟩ = some (.slice A2 fs.length cp2) ∧ wr.cell? ⟨tb, 4, none⟩ = some (.slice A3 ps.length cp3) ∧ wr.cell? ⟨w.heap.size, 0, none⟩ = some (.int .i64 0) ∧ wr.cell? ⟨w.heap.size, 1, none⟩ = some (.int .i64 0) ∧ wr.cell? ⟨w.heap.size, 2, none⟩ = some (.int .i64 0) ∧ wr.cell? ⟨w.heap.size, 3, none⟩ = some (.slice none 0 0) ∧ wr.cell? ⟨w.heap.size, 4, none⟩ = some (.slice none 0 0) ∧ (∀ o, wr.frozen? ⟨w.heap.size, o, none⟩ = false) ∧ (∀ o, wr.frozen? ⟨tb, o, none⟩ = false) ∧ tb < wr.heap.size ∧ FreshA cIn 1 3 (tb + 1) wr A2 cp2 fs ∧ FreshA cPu 3 71 (tb + 1) wr A3 cp3 ps ∧ CurS wr b A cs cap (m + 200 - 20 * (j : Int)) ∧ w.grownBy wr (some b)) (fun i _ => (intOf i).toNat)
    case atStart =>
      exact ⟨j2, none, 0, [], rfl, by simp; omega, c153, c154, c155, c156, c157, c158, c159, c160, c161, c162, z163, z164, by omega, R165.out, .inl ⟨rfl, rfl, rfl⟩, CurS.mono cu166 (by omega), gw167⟩
    case round =>
      obtain ⟨j, A3, cp3, ps, rfl, hp2, p0, p1, p2, p3, p4, p5, p6, p7, p8, p9, pz0, pz1, ptl, hF, hFp, hcr, hgr⟩ := hrel
      have RF := hid hF
      have RP := hid hFp
      clear hF hFp
      have hgrz := hgr.size
      have hcrl := hcr.lt
      by_cases hj : j = 0
      rotate_left
      · go_wp2_with (fail)
        refine wp_named ?_
        intro V168 hV
        have hkV168 : wr.heap.size ≤ V168.heap.size := by rw [hV]; first | with_reducible exact Nat.le_refl _ | (simp [World.setCell]; done) | (simp; omega)
        have c169 : V168.cell? ⟨tb, 0, none⟩ = some (.int .i64 dx10) := by rw [hV]; first | ((repeat' (first | with_reducible exact p0 | with_reducible refine cellK_drew ?_ | with_reducible refine cellK_alloc ?_ | with_reducible refine cellK_set ?_ (by dsimp only; omega))); done) | (first | (simp [go_sem, ↓IntWalk.iteOmega, *]; done) | (simp [go_sem, ↓IntWalk.iteOmega, *]; intros; omega))
        have c170 : V168.cell? ⟨tb, 1, none⟩ = some (.int .i64 dx48) := by rw [hV]; first | ((repeat' (first | with_reducible exact p1 | with_reducible refine cellK_drew ?_ | with_reducible refine cellK_alloc ?_ | with_reducible refine cellK_set ?_ (by dsimp only; omega))); done) | (first | (simp [go_sem, ↓IntWalk.iteOmega, *]; done) | (simp [go_sem, ↓IntWalk.iteOmega, *]; intros; omega))
        have c171 : V168.cell? ⟨tb, 2, none⟩ = some (.int .i64 dx29) := by rw [hV]; first | ((repeat' (first | with_reducible exact p2 | with_reducible refine cellK_drew ?_ | with_reducible refine cellK_alloc ?_ | with_reducible refine cellK_set ?_ (by dsimp only; omega))); done) | (first | (simp [go_sem, ↓IntWalk.iteOmega, *]; done) | (simp [go_sem, ↓IntWalk.iteOmega, *]; intros; omega))
        have c172 : V168.cell? ⟨tb, 3, none⟩ = some (.slice A2 fs.length cp2) := by rw [hV]; first | ((repeat' (first | with_reducible exact p3 | with_reducible refine cellK_drew ?_ | with_reducible refine cellK_alloc ?_ | with_reducible refine cellK_set ?_ (by dsimp only; omega))); done) | (first | (simp [go_sem, ↓IntWalk.iteOmega, *]; done) | (simp [go_sem, ↓IntWalk.iteOmega, *]; intros; omega))
        have c173 : V168.cell? ⟨tb, 4, none⟩ = some (.slice A3 ps.length cp3) := by rw [hV]; first | ((repeat' (first | with_reducible exact p4 | with_reducible refine cellK_drew ?_ | with_reducible refine cellK_alloc ?_ | with_reducible refine cellK_set ?_ (by dsimp only; omega))); done) | (first | (simp [go_sem, ↓IntWalk.iteOmega, *]; done) | (simp [go_sem, ↓IntWalk.iteOmega, *]; intros; omega))
        have c174 : V168.cell? ⟨w.heap.size, 0, none⟩ = some (.int .i64 0) := by rw [hV]; first | ((repeat' (first | with_reducible exact p5 | with_reducible refine cellK_drew ?_ | with_reducible refine cellK_alloc ?_ | with_reducible refine cellK_set ?_ (by dsimp only; omega))); done) | (first | (simp [go_sem, ↓IntWalk.iteOmega, *]; done) | (simp [go_sem, ↓IntWalk.iteOmega, *]; intros; omega))
        have c175 : V168.cell? ⟨w.heap.size, 1, none⟩ = some (.int .i64 0) := by rw [hV]; first | ((repeat' (first | with_reducible exact p6 | with_reducible refine cellK_drew ?_ | with_reducible refine cellK_alloc ?_ | with_reducible refine cellK_set ?_ (by dsimp only; omega))); done) | (first | (simp [go_sem, ↓IntWalk.iteOmega, *]; done) | (simp [go_sem, ↓IntWalk.iteOmega, *]; intros; omega))
        have c176 : V168.cell? ⟨w.heap.size, 2, none⟩ = some (.int .i64 0) := by rw [hV]; first | ((repeat' (first | with_reducible exact p7 | with_reducible refine cellK_drew ?_ | with_reducible refine cellK_alloc ?_ | with_reducible refine cellK_set ?_ (by dsimp only; omega))); done) | (first | (simp [go_sem, ↓IntWalk.iteOmega, *]; done) | (simp [go_sem, ↓IntWalk.iteOmega, *]; intros; omega))
        have c177 : V168.cell? ⟨w.heap.size, 3, none⟩ = some (.slice none 0 0) := by rw [hV]; first | ((repeat' (first | with_reducible exact p8 | with_reducible refine cellK_drew ?_ | with_reducible refine cellK_alloc ?_ | with_reducible refine cellK_set ?_ (by dsimp only; omega))); done) | (first | (simp [go_sem, ↓IntWalk.iteOmega, *]; done) | (simp [go_sem, ↓IntWalk.iteOmega, *]; intros; omega))
        have c178 : V168.cell? ⟨w.heap.size, 4, none⟩ = some (.slice none 0 0) := by rw [hV]; first | ((repeat' (first | with_reducible exact p9 | with_reducible refine cellK_drew ?_ | with_reducible refine cellK_alloc ?_ | with_reducible refine cellK_set ?_ (by dsimp only; omega))); done) | (first | (simp [go_sem, ↓IntWalk.iteOmega, *]; done) | (simp [go_sem, ↓IntWalk.iteOmega, *]; intros; omega))
        have z179 : ∀ o, V168.frozen? ⟨w.heap.size, o, none⟩ = false := by rw [hV]; first | ((repeat' (first | with_reducible exact pz0 | with_reducible refine frozK_drew ?_ | with_reducible refine frozK_alloc ?_ | with_reducible refine frozK_set ?_)); done) | (intro o; first | (simp [go_sem, ↓IntWalk.iteOmega, *]; done) | (simp [go_sem, ↓IntWalk.iteOmega, *]; intros; omega))
        have z180 : ∀ o, V168.frozen? ⟨tb, o, none⟩ = false := by rw [hV]; first | ((repeat' (first | with_reducible exact pz1 | with_reducible refine frozK_drew ?_ | with_reducible refine frozK_alloc ?_ | with_reducible refine frozK_set ?_)); done) | (intro o; first | (simp [go_sem, ↓IntWalk.iteOmega, *]; done) | (simp [go_sem, ↓IntWalk.iteOmega, *]; intros; omega))
        have R181 : Hid (FreshA cIn 1 3 (tb + 1) V168 A2 cp2 fs) := hid (by rw [hV]; (repeat' (first | with_reducible exact RF.out | with_reducible refine FreshA.set_at ?_ (by assumption) _ | with_reducible refine FreshA.set_low ?_ ?_ _ | with_reducible refine FreshA.below ?_ (Below.drew (Below.refl _ _)) | with_reducible refine FreshA.below ?_ (Below.alloc (Below.refl _ _) (Nat.le_refl _) _) | (dsimp only; omega) | (simp; done) | (simp; omega))))
        have R182 : Hid (FreshA cPu 3 71 (tb + 1) V168 A3 cp3 ps) := hid (by rw [hV]; (repeat' (first | with_reducible exact RP.out | with_reducible refine FreshA.set_at ?_ (by assumption) _ | with_reducible refine FreshA.set_low ?_ ?_ _ | with_reducible refine FreshA.below ?_ (Below.drew (Below.refl _ _)) | with_reducible refine FreshA.below ?_ (Below.alloc (Below.refl _ _) (Nat.le_refl _) _) | (dsimp only; omega) | (simp; done) | (simp; omega))))
        have cu183 : CurS V168 b A cs cap (m + 200 - 20 * (j : Int)) := by rw [hV]; (repeat' (first | with_reducible refine CurS.setc ?_ ?_ | with_reducible refine CurS.allo ?_ | with_reducible refine CurS.drw ?_ | with_reducible exact hcr | (dsimp only; omega) | (simp; done) | (simp; omega)))
        have gw184 : w.grownBy V168 (some b) := by rw [hV]; (repeat' (first | with_reducible exact World.grownBy.refl _ _ | with_reducible exact hgr | with_reducible refine grownA ?_ | with_reducible refine grownS ?_ ?_ | with_reducible refine grown_drew ?_ | (dsimp only; omega) | (simp; done) | omega))
        have hzgw184 := gw184.size
        have hlcu183 := cu183.lt
        clear p0 p1 p2 p3 p4 p5 p6 p7 p8 p9 pz0 pz1 RF RP hcr hgr
        clear hV
        refine wp_region_c (n := 13) b (fun k w' => CurS w' b A cs cap (m + 200 - 20 * (j : Int) + k)) [] (FSb b tb A3 ps.length cp3) rfl (by kernel_rfl) (fun _ _ d _ _ h => by cases d <;> exact h) (CurS.mono (CurS.drw cu183) (by omega)) ?_ (fun i hi => absurd hi (by simp)) ?_ ?_
        · intro iq v w1 w2 hF hg
          match iq with
          | 0 => exact hF
          | 1 => exact hF
          | 2 => exact hF
          | 3 => exact hF.keep hg
          | 4 => exact hF
          | 5 => exact hF
          | 6 => exact hF.keep hg
          | 7 => exact hF
          | 8 => exact hF
          | 9 => exact hF.keep hg
          | 10 => exact hF
          | 11 => exact hF
          | 12 => exact hF.keep hg
          | q + 13 => exact (show True from trivial)
        · intro iq o hi ho vals k w1 hk hT hgW hf
          match iq, hi with
          | 0, _ =>
            injection ho with ho
            subst ho
            clear hf
            have hz1 := hgW.size
            have hlt1 := CurS.lt hT
            simp only [fillA, List.take, List.drop, put_none, Act.put, List.setIfInBounds_toArray, List.set_cons_zero, List.set_cons_succ, Nat.reduceAdd]
            go_wp2_with (fail)
            exact ⟨rfl, rfl, World.grownBy.refl _ _, CurS.mono hT (by omega), (by first | rfl | (simp [FSb]; done) | (simp [FSb, *]; done) | (simp [FSb, gotV]; done) | (simp [FSb, gotV, *]; done)), fun h => absurd h (by decide)⟩
          | 1, _ =>
            injection ho with ho
            subst ho
            have e0 : vals 0 = .pointer (some ⟨tb, 4, none⟩) := hf 0 (by decide) (by kernel_rfl)
            clear hf
            have hz1 := hgW.size
            have hlt1 := CurS.lt hT
            simp only [fillA, List.take, List.drop, put_none, Act.put, List.setIfInBounds_toArray, List.set_cons_zero, List.set_cons_succ, Nat.reduceAdd, e0]
            have k0 : w1.cell? ⟨tb, 0, none⟩ = some (.int .i64 dx10) := (cellRow hgW (tb) 0).trans (by rw [if_pos ⟨by omega, by omega⟩]; exact c169)
            have k1 : w1.cell? ⟨tb, 1, none⟩ = some (.int .i64 dx48) := (cellRow hgW (tb) 1).trans (by rw [if_pos ⟨by omega, by omega⟩]; exact c170)
            have k2 : w1.cell? ⟨tb, 2, none⟩ = some (.int .i64 dx29) := (cellRow hgW (tb) 2).trans (by rw [if_pos ⟨by omega, by omega⟩]; exact c171)
            have k3 : w1.cell? ⟨tb, 3, none⟩ = some (.slice A2 fs.length cp2) := (cellRow hgW (tb) 3).trans (by rw [if_pos ⟨by omega, by omega⟩]; exact c172)
            have k4 : w1.cell? ⟨tb, 4, none⟩ = some (.slice A3 ps.length cp3) := (cellRow hgW (tb) 4).trans (by rw [if_pos ⟨by omega, by omega⟩]; exact c173)
            go_wp2_with (fail)
            exact ⟨rfl, rfl, World.grownBy.refl _ _, CurS.mono hT (by omega), (by first | rfl | (simp [FSb]; done) | (simp [FSb, *]; done) | (simp [FSb, gotV]; done) | (simp [FSb, gotV, *]; done)), fun h => absurd h (by decide)⟩
          | 2, _ =>
            injection ho with ho
            subst ho
            clear hf
            have hz1 := hgW.size
            have hlt1 := CurS.lt hT
            simp only [fillA, List.take, List.drop, put_none, Act.put, List.setIfInBounds_toArray, List.set_cons_zero, List.set_cons_succ, Nat.reduceAdd]
            go_wp2_with (fail)
            exact ⟨rfl, rfl, World.grownBy.refl _ _, CurS.mono hT (by omega), (by first | rfl | (simp [FSb]; done) | (simp [FSb, *]; done) | (simp [FSb, gotV]; done) | (simp [FSb, gotV, *]; done)), fun h => absurd h (by decide)⟩
          | 3, _ =>
            injection ho with ho
            subst ho
            clear hf
            have hz1 := hgW.size
            have hlt1 := CurS.lt hT
            simp only [fillA, List.take, List.drop, put_none, Act.put, List.setIfInBounds_toArray, List.set_cons_zero, List.set_cons_succ, Nat.reduceAdd]
            go_wp2_with (fail)
            exact ⟨rfl, rfl, grownA (World.grownBy.refl _ _), CurS.mono (CurS.allo hT) (by omega), ⟨_, rfl, by omega, heap_alloc_new _ _⟩, fun h => absurd h (by decide)⟩
          | 4, _ =>
            injection ho with ho
            subst ho
            have e2 : vals 2 = .pointer (some ⟨b, 0, none⟩) := hf 2 (by decide) (by kernel_rfl)
            obtain ⟨g3, e3, hB3, hh3⟩ := hf 3 (by decide) (by kernel_rfl)
            clear hf
            have hz1 := hgW.size
            have hlt1 := CurS.lt hT
            simp only [fillA, List.take, List.drop, put_none, Act.put, List.setIfInBounds_toArray, List.set_cons_zero, List.set_cons_succ, Nat.reduceAdd, e2, e3]
            go_wp2_with (go_at_call 82; refine (c_among b A cs cap (m + 200 - 20 * (j : Int) + k) _ ([1, 5, 10, 20, 50] : List Int) _ (1) (50) _ hT hby (by omega) hl (Rds.of_block hh3 (by intro i x h; rcases i with _ | _ | _ | _ | _ | i <;> simp at h ⊢ <;> first | exact h | omega)) (by simp) (by intro a ha; cases ha; simp; omega) (fun k hk => (show ∀ x ∈ ([1, 5, 10, 20, 50] : List Int), 1 ≤ x ∧ x ≤ 50 by intro x hx; simp at hx; omega) _ (List.getElem_mem hk))).mono ?_; rintro e w9 ⟨x9, rfl, hx9a, hx9b, hcu9, hg9⟩)
            exact RQO_of (.int .i64 x9) rfl (by first | rfl | (simp [gotV]; done) | (simp [gotV, *]; done)) ⟨hg9, CurS.mono hcu9 (by omega), ⟨x9, rfl, hx9a, hx9b⟩, fun h => absurd h (by decide)⟩
          | 5, _ =>
            injection ho with ho
            subst ho
            clear hf
            have hz1 := hgW.size
            have hlt1 := CurS.lt hT
            simp only [fillA, List.take, List.drop, put_none, Act.put, List.setIfInBounds_toArray, List.set_cons_zero, List.set_cons_succ, Nat.reduceAdd]
            go_wp2_with (fail)
            exact ⟨rfl, rfl, World.grownBy.refl _ _, CurS.mono hT (by omega), (by first | rfl | (simp [FSb]; done) | (simp [FSb, *]; done) | (simp [FSb, gotV]; done) | (simp [FSb, gotV, *]; done)), fun h => absurd h (by decide)⟩
          | 6, _ =>
            injection ho with ho
            subst ho
            clear hf
            have hz1 := hgW.size
            have hlt1 := CurS.lt hT
            simp only [fillA, List.take, List.drop, put_none, Act.put, List.setIfInBounds_toArray, List.set_cons_zero, List.set_cons_succ, Nat.reduceAdd]
            go_wp2_with (fail)
            exact ⟨rfl, rfl, grownA (World.grownBy.refl _ _), CurS.mono (CurS.allo hT) (by omega), ⟨_, rfl, by omega, heap_alloc_new _ _⟩, fun h => absurd h (by decide)⟩
          | 7, _ =>
            injection ho with ho
            subst ho
            have e5 : vals 5 = .pointer (some ⟨b, 0, none⟩) := hf 5 (by decide) (by kernel_rfl)
            obtain ⟨g6, e6, hB6, hh6⟩ := hf 6 (by decide) (by kernel_rfl)
            obtain ⟨x4, e4, hxa4, hxb4⟩ := hf 4 (by decide) (by kernel_rfl)
            clear hf
            have hz1 := hgW.size
            have hlt1 := CurS.lt hT
            simp only [fillA, List.take, List.drop, put_none, Act.put, List.setIfInBounds_toArray, List.set_cons_zero, List.set_cons_succ, Nat.reduceAdd, e5, e6, e4]
            go_wp2_with (go_at_call 82; refine (c_among b A cs cap (m + 200 - 20 * (j : Int) + k) _ ([0, 1, 3, 20] : List Int) _ (0) (20) _ hT hby (by omega) hl (Rds.of_block hh6 (by intro i x h; rcases i with _ | _ | _ | _ | i <;> simp at h ⊢ <;> first | exact h | omega)) (by simp) (by intro a ha; cases ha; simp; omega) (fun k hk => (show ∀ x ∈ ([0, 1, 3, 20] : List Int), 0 ≤ x ∧ x ≤ 20 by intro x hx; simp at hx; omega) _ (List.getElem_mem hk))).mono ?_; rintro e w9 ⟨x9, rfl, hx9a, hx9b, hcu9, hg9⟩)
            exact RQO_of (.int .i64 x9) rfl (by first | rfl | (simp [gotV]; done) | (simp [gotV, *]; done)) ⟨hg9, CurS.mono hcu9 (by omega), ⟨x9, rfl, hx9a, hx9b⟩, fun h => absurd h (by decide)⟩
          | 8, _ =>
            injection ho with ho
            subst ho
            clear hf
            have hz1 := hgW.size
            have hlt1 := CurS.lt hT
            simp only [fillA, List.take, List.drop, put_none, Act.put, List.setIfInBounds_toArray, List.set_cons_zero, List.set_cons_succ, Nat.reduceAdd]
            go_wp2_with (fail)
            exact ⟨rfl, rfl, World.grownBy.refl _ _, CurS.mono hT (by omega), (by first | rfl | (simp [FSb]; done) | (simp [FSb, *]; done) | (simp [FSb, gotV]; done) | (simp [FSb, gotV, *]; done)), fun h => absurd h (by decide)⟩
          | 9, _ =>
            injection ho with ho
            subst ho
            clear hf
            have hz1 := hgW.size
            have hlt1 := CurS.lt hT
            simp only [fillA, List.take, List.drop, put_none, Act.put, List.setIfInBounds_toArray, List.set_cons_zero, List.set_cons_succ, Nat.reduceAdd]
            go_wp2_with (fail)
            exact ⟨rfl, rfl, grownA (World.grownBy.refl _ _), CurS.mono (CurS.allo hT) (by omega), ⟨_, rfl, by omega, heap_alloc_new _ _⟩, fun h => absurd h (by decide)⟩
          | 10, _ =>
            injection ho with ho
            subst ho
            have e8 : vals 8 = .pointer (some ⟨b, 0, none⟩) := hf 8 (by decide) (by kernel_rfl)
            obtain ⟨g9, e9, hB9, hh9⟩ := hf 9 (by decide) (by kernel_rfl)
            obtain ⟨x7, e7, hxa7, hxb7⟩ := hf 7 (by decide) (by kernel_rfl)
            clear hf
            have hz1 := hgW.size
            have hlt1 := CurS.lt hT
            simp only [fillA, List.take, List.drop, put_none, Act.put, List.setIfInBounds_toArray, List.set_cons_zero, List.set_cons_succ, Nat.reduceAdd, e8, e9, e7]
            go_wp2_with (go_at_call 82; refine (c_among b A cs cap (m + 200 - 20 * (j : Int) + k) _ ([0, 2, 10, 50] : List Int) _ (0) (50) _ hT hby (by omega) hl (Rds.of_block hh9 (by intro i x h; rcases i with _ | _ | _ | _ | i <;> simp at h ⊢ <;> first | exact h | omega)) (by simp) (by intro a ha; cases ha; simp; omega) (fun k hk => (show ∀ x ∈ ([0, 2, 10, 50] : List Int), 0 ≤ x ∧ x ≤ 50 by intro x hx; simp at hx; omega) _ (List.getElem_mem hk))).mono ?_; rintro e w9 ⟨x9, rfl, hx9a, hx9b, hcu9, hg9⟩)
            exact RQO_of (.int .i64 x9) rfl (by first | rfl | (simp [gotV]; done) | (simp [gotV, *]; done)) ⟨hg9, CurS.mono hcu9 (by omega), ⟨x9, rfl, hx9a, hx9b⟩, fun h => absurd h (by decide)⟩
          | 11, _ =>
            injection ho with ho
            subst ho
            obtain ⟨x4, e4, hxa4, hxb4⟩ := hf 4 (by decide) (by kernel_rfl)
            obtain ⟨x7, e7, hxa7, hxb7⟩ := hf 7 (by decide) (by kernel_rfl)
            obtain ⟨x10, e10, hxa10, hxb10⟩ := hf 10 (by decide) (by kernel_rfl)
            clear hf
            have hz1 := hgW.size
            have hlt1 := CurS.lt hT
            simp only [fillA, List.take, List.drop, put_none, Act.put, List.setIfInBounds_toArray, List.set_cons_zero, List.set_cons_succ, Nat.reduceAdd, e4, e7, e10]
            go_wp2_with (fail)
            exact RQO_of (.agg #[.int .i64 x4, .int .i64 x7, .int .i64 x10]) rfl (by first | rfl | (simp [gotV]; done) | (simp [gotV, *]; done)) ⟨World.grownBy.refl _ _, CurS.mono hT (by omega), ⟨(x4, x7, x10), rfl⟩, fun h => absurd h (by decide)⟩
          | 12, _ =>
            injection ho with ho
            subst ho
            obtain ⟨q11, e11⟩ := hf 11 (by decide) (by kernel_rfl)
            clear hf
            have hz1 := hgW.size
            have hlt1 := CurS.lt hT
            simp only [fillA, List.take, List.drop, put_none, Act.put, List.setIfInBounds_toArray, List.set_cons_zero, List.set_cons_succ, Nat.reduceAdd, e11]
            go_wp2_with (fail)
            exact ⟨rfl, rfl, grownA (World.grownBy.refl _ _), CurS.mono (CurS.allo hT) (by omega), ⟨q11, _, rfl, by omega, heap_alloc_new _ _⟩, fun h => absurd h (by decide)⟩
          | q + 13, h => exact absurd h (by omega)
        · intro vals W5 hT hgW hf hd
          have e0 : vals 0 = .pointer (some ⟨tb, 4, none⟩) := hf 0 (by decide)
          have e1 : vals 1 = .slice A3 ps.length cp3 := hf 1 (by decide)
          have e2 : vals 2 = .pointer (some ⟨b, 0, none⟩) := hf 2 (by decide)
          obtain ⟨g3, e3, hB3, hh3⟩ := hf 3 (by decide)
          obtain ⟨x4, e4, hxa4, hxb4⟩ := hf 4 (by decide)
          have e5 : vals 5 = .pointer (some ⟨b, 0, none⟩) := hf 5 (by decide)
          obtain ⟨g6, e6, hB6, hh6⟩ := hf 6 (by decide)
          obtain ⟨x7, e7, hxa7, hxb7⟩ := hf 7 (by decide)
          have e8 : vals 8 = .pointer (some ⟨b, 0, none⟩) := hf 8 (by decide)
          obtain ⟨g9, e9, hB9, hh9⟩ := hf 9 (by decide)
          obtain ⟨x10, e10, hxa10, hxb10⟩ := hf 10 (by decide)
          obtain ⟨q11, e11⟩ := hf 11 (by decide)
          obtain ⟨q12, g12, e12, hB12, hh12⟩ := hf 12 (by decide)
          clear hf hd
          simp only [fillA, List.take, List.drop, put_none, Act.put, List.setIfInBounds_toArray, List.set_cons_zero, List.set_cons_succ, Nat.reduceAdd, e0, e1, e2, e3, e4, e5, e6, e7, e8, e9, e10, e11, e12]
          have hkW5 := hgW.size
          have c185 : W5.cell? ⟨tb, 0, none⟩ = some (.int .i64 dx10) := (cellRow hgW (tb) 0).trans (by rw [if_pos ⟨by omega, by omega⟩]; exact c169)
          have c186 : W5.cell? ⟨tb, 1, none⟩ = some (.int .i64 dx48) := (cellRow hgW (tb) 1).trans (by rw [if_pos ⟨by omega, by omega⟩]; exact c170)
          have c187 : W5.cell? ⟨tb, 2, none⟩ = some (.int .i64 dx29) := (cellRow hgW (tb) 2).trans (by rw [if_pos ⟨by omega, by omega⟩]; exact c171)
          have c188 : W5.cell? ⟨tb, 3, none⟩ = some (.slice A2 fs.length cp2) := (cellRow hgW (tb) 3).trans (by rw [if_pos ⟨by omega, by omega⟩]; exact c172)
          have c189 : W5.cell? ⟨tb, 4, none⟩ = some (.slice A3 ps.length cp3) := (cellRow hgW (tb) 4).trans (by rw [if_pos ⟨by omega, by omega⟩]; exact c173)
          have c190 : W5.cell? ⟨w.heap.size, 0, none⟩ = some (.int .i64 0) := (cellRow hgW (w.heap.size) 0).trans (by rw [if_pos ⟨by omega, by omega⟩]; exact c174)
          have c191 : W5.cell? ⟨w.heap.size, 1, none⟩ = some (.int .i64 0) := (cellRow hgW (w.heap.size) 1).trans (by rw [if_pos ⟨by omega, by omega⟩]; exact c175)
          have c192 : W5.cell? ⟨w.heap.size, 2, none⟩ = some (.int .i64 0) := (cellRow hgW (w.heap.size) 2).trans (by rw [if_pos ⟨by omega, by omega⟩]; exact c176)
          have c193 : W5.cell? ⟨w.heap.size, 3, none⟩ = some (.slice none 0 0) := (cellRow hgW (w.heap.size) 3).trans (by rw [if_pos ⟨by omega, by omega⟩]; exact c177)
          have c194 : W5.cell? ⟨w.heap.size, 4, none⟩ = some (.slice none 0 0) := (cellRow hgW (w.heap.size) 4).trans (by rw [if_pos ⟨by omega, by omega⟩]; exact c178)
          have z195 : ∀ o, W5.frozen? ⟨w.heap.size, o, none⟩ = false := fun o => (frozRow hgW (w.heap.size) o).trans (by rw [if_pos ⟨by omega, by omega⟩]; exact z179 o)
          have z196 : ∀ o, W5.frozen? ⟨tb, o, none⟩ = false := fun o => (frozRow hgW (tb) o).trans (by rw [if_pos ⟨by omega, by omega⟩]; exact z180 o)
          have R197 : Hid (FreshA cIn 1 3 (tb + 1) W5 A2 cp2 fs) := hid (FreshA.rowb R181.out hgW (by omega))
          have R198 : Hid (FreshA cPu 3 71 (tb + 1) W5 A3 cp3 ps) := hid (FreshA.rowb R182.out hgW (by omega))
          have cu199 : CurS W5 b A cs cap (m + 200 - 20 * (j : Int) + 13) := hT
          have gw200 : w.grownBy W5 (some b) := grown_trans gw184 hgW
          have hzgw200 := gw200.size
          have hlcu199 := cu199.lt
          clear c169 c170 c171 c172 c173 c174 c175 c176 c177 c178 z179 z180 R181 R182 cu183 gw184
          clear hgW
          refine wpList_pushesR (xs := ps) rfl (.tmp 38) (.tmp 49) 29 rfl 71 j0 _ 24 Try.underlying29 hJ0 hJ1 hJ2 hJ3 rfl (by decide) (fun _ => rfl) one_Pu _ rfl rfl R198.out [q12] 1 rfl (some ⟨g12, 0, none⟩) _ rfl (Rds.ofBox hh12) (by unfold maxLen; omega) (by first | omega | (simp; omega)) (by omega) ?_
          intro A5 cp5 W6 hF3 hg3 hat3
          have hkW6 := hg3.size
          have hlo := R198.out.lo
          have c201 : W6.cell? ⟨tb, 0, none⟩ = some (.int .i64 dx10) := (World.cell?_of_block (a := ⟨tb, 0, none⟩) (hg3.block (tb) (by omega) (ne_blk hlo (by omega)))).trans c185
          have c202 : W6.cell? ⟨tb, 1, none⟩ = some (.int .i64 dx48) := (World.cell?_of_block (a := ⟨tb, 1, none⟩) (hg3.block (tb) (by omega) (ne_blk hlo (by omega)))).trans c186
          have c203 : W6.cell? ⟨tb, 2, none⟩ = some (.int .i64 dx29) := (World.cell?_of_block (a := ⟨tb, 2, none⟩) (hg3.block (tb) (by omega) (ne_blk hlo (by omega)))).trans c187
          have c204 : W6.cell? ⟨tb, 3, none⟩ = some (.slice A2 fs.length cp2) := (World.cell?_of_block (a := ⟨tb, 3, none⟩) (hg3.block (tb) (by omega) (ne_blk hlo (by omega)))).trans c188
          have c205 : W6.cell? ⟨tb, 4, none⟩ = some (.slice A3 ps.length cp3) := (World.cell?_of_block (a := ⟨tb, 4, none⟩) (hg3.block (tb) (by omega) (ne_blk hlo (by omega)))).trans c189
          have c206 : W6.cell? ⟨w.heap.size, 0, none⟩ = some (.int .i64 0) := (World.cell?_of_block (a := ⟨w.heap.size, 0, none⟩) (hg3.block (w.heap.size) (by omega) (ne_blk hlo (by omega)))).trans c190
          have c207 : W6.cell? ⟨w.heap.size, 1, none⟩ = some (.int .i64 0) := (World.cell?_of_block (a := ⟨w.heap.size, 1, none⟩) (hg3.block (w.heap.size) (by omega) (ne_blk hlo (by omega)))).trans c191
          have c208 : W6.cell? ⟨w.heap.size, 2, none⟩ = some (.int .i64 0) := (World.cell?_of_block (a := ⟨w.heap.size, 2, none⟩) (hg3.block (w.heap.size) (by omega) (ne_blk hlo (by omega)))).trans c192
          have c209 : W6.cell? ⟨w.heap.size, 3, none⟩ = some (.slice none 0 0) := (World.cell?_of_block (a := ⟨w.heap.size, 3, none⟩) (hg3.block (w.heap.size) (by omega) (ne_blk hlo (by omega)))).trans c193
          have c210 : W6.cell? ⟨w.heap.size, 4, none⟩ = some (.slice none 0 0) := (World.cell?_of_block (a := ⟨w.heap.size, 4, none⟩) (hg3.block (w.heap.size) (by omega) (ne_blk hlo (by omega)))).trans c194
          have z211 : ∀ o, W6.frozen? ⟨w.heap.size, o, none⟩ = false := fun o => (World.frozen?_of_block (a := ⟨w.heap.size, o, none⟩) (hg3.block (w.heap.size) (by omega) (ne_blk hlo (by omega)))).trans (z195 o)
          have z212 : ∀ o, W6.frozen? ⟨tb, o, none⟩ = false := fun o => (World.frozen?_of_block (a := ⟨tb, o, none⟩) (hg3.block (tb) (by omega) (ne_blk hlo (by omega)))).trans (z196 o)
          have R213 : Hid (FreshA cIn 1 3 (tb + 1) W6 A2 cp2 fs) := hid (FreshA.grown R197.out hg3 (FreshA.apart R197.out R198.out (by decide)))
          have R214 : Hid (FreshA cPu 3 71 (tb + 1) W6 A5 cp5 (ps ++ [q12])) := hid (hF3)
          have cu215 : CurS W6 b A cs cap (m + 200 - 20 * (j : Int) + 13) := CurS.other cu199 hg3 hlo (by omega)
          have gw216 : w.grownBy W6 (some b) := grown_other gw200 hg3 (hlo.mono (by omega))
          have hzgw216 := gw216.size
          have hlcu215 := cu215.lt
          clear c185 c186 c187 c188 c189 c190 c191 c192 c193 c194 z195 z196 R197 R198 cu199 gw200
          clear hlo
          clear hF3 hg3 hat3
          have hl5 : (ps ++ [q12]).length = ps.length + 1 := by simp
          go_wp2_with (fail)
          go_roundw
          case rel =>
            refine ⟨j - 1, A5, cp5, ps ++ [q12], by first | go_num | (congr 1; omega), by simp; omega, ?_, ?_, ?_, ?_, ?_, ?_, ?_, ?_, ?_, ?_, ?_, ?_, by simp; omega, ?_, ?_, ?_, ?_⟩
            · first | ((repeat' (first | with_reducible exact c201 | with_reducible refine cellK_drew ?_ | with_reducible refine cellK_alloc ?_ | with_reducible refine cellK_set ?_ (by dsimp only; omega))); done) | (first | (simp [go_sem, ↓IntWalk.iteOmega, *]; done) | (simp [go_sem, ↓IntWalk.iteOmega, *]; intros; omega))
            · first | ((repeat' (first | with_reducible exact c202 | with_reducible refine cellK_drew ?_ | with_reducible refine cellK_alloc ?_ | with_reducible refine cellK_set ?_ (by dsimp only; omega))); done) | (first | (simp [go_sem, ↓IntWalk.iteOmega, *]; done) | (simp [go_sem, ↓IntWalk.iteOmega, *]; intros; omega))
            · first | ((repeat' (first | with_reducible exact c203 | with_reducible refine cellK_drew ?_ | with_reducible refine cellK_alloc ?_ | with_reducible refine cellK_set ?_ (by dsimp only; omega))); done) | (first | (simp [go_sem, ↓IntWalk.iteOmega, *]; done) | (simp [go_sem, ↓IntWalk.iteOmega, *]; intros; omega))
            · first | ((repeat' (first | with_reducible exact c204 | with_reducible refine cellK_drew ?_ | with_reducible refine cellK_alloc ?_ | with_reducible refine cellK_set ?_ (by dsimp only; omega))); done) | (first | (simp [go_sem, ↓IntWalk.iteOmega, *]; done) | (simp [go_sem, ↓IntWalk.iteOmega, *]; intros; omega))
            · first | (simp [go_sem, ↓IntWalk.iteOmega, *]; done) | (simp [go_sem, ↓IntWalk.iteOmega, *]; intros; omega)
            · first | ((repeat' (first | with_reducible exact c206 | with_reducible refine cellK_drew ?_ | with_reducible refine cellK_alloc ?_ | with_reducible refine cellK_set ?_ (by dsimp only; omega))); done) | (first | (simp [go_sem, ↓IntWalk.iteOmega, *]; done) | (simp [go_sem, ↓IntWalk.iteOmega, *]; intros; omega))
            · first | ((repeat' (first | with_reducible exact c207 | with_reducible refine cellK_drew ?_ | with_reducible refine cellK_alloc ?_ | with_reducible refine cellK_set ?_ (by dsimp only; omega))); done) | (first | (simp [go_sem, ↓IntWalk.iteOmega, *]; done) | (simp [go_sem, ↓IntWalk.iteOmega, *]; intros; omega))
            · first | ((repeat' (first | with_reducible exact c208 | with_reducible refine cellK_drew ?_ | with_reducible refine cellK_alloc ?_ | with_reducible refine cellK_set ?_ (by dsimp only; omega))); done) | (first | (simp [go_sem, ↓IntWalk.iteOmega, *]; done) | (simp [go_sem, ↓IntWalk.iteOmega, *]; intros; omega))
            · first | ((repeat' (first | with_reducible exact c209 | with_reducible refine cellK_drew ?_ | with_reducible refine cellK_alloc ?_ | with_reducible refine cellK_set ?_ (by dsimp only; omega))); done) | (first | (simp [go_sem, ↓IntWalk.iteOmega, *]; done) | (simp [go_sem, ↓IntWalk.iteOmega, *]; intros; omega))
            · first | ((repeat' (first | with_reducible exact c210 | with_reducible refine cellK_drew ?_ | with_reducible refine cellK_alloc ?_ | with_reducible refine cellK_set ?_ (by dsimp only; omega))); done) | (first | (simp [go_sem, ↓IntWalk.iteOmega, *]; done) | (simp [go_sem, ↓IntWalk.iteOmega, *]; intros; omega))
            · first | ((repeat' (first | with_reducible exact z211 | with_reducible refine frozK_drew ?_ | with_reducible refine frozK_alloc ?_ | with_reducible refine frozK_set ?_)); done) | (intro o; first | (simp [go_sem, ↓IntWalk.iteOmega, *]; done) | (simp [go_sem, ↓IntWalk.iteOmega, *]; intros; omega))
            · first | ((repeat' (first | with_reducible exact z212 | with_reducible refine frozK_drew ?_ | with_reducible refine frozK_alloc ?_ | with_reducible refine frozK_set ?_)); done) | (intro o; first | (simp [go_sem, ↓IntWalk.iteOmega, *]; done) | (simp [go_sem, ↓IntWalk.iteOmega, *]; intros; omega))
            · (repeat' (first | with_reducible exact R213.out | with_reducible refine FreshA.set_at ?_ (by assumption) _ | with_reducible refine FreshA.set_low ?_ ?_ _ | with_reducible refine FreshA.below ?_ (Below.drew (Below.refl _ _)) | with_reducible refine FreshA.below ?_ (Below.alloc (Below.refl _ _) (Nat.le_refl _) _) | (dsimp only; omega) | (simp; done) | (simp; omega)))
            · (repeat' (first | with_reducible exact R214.out | with_reducible refine FreshA.set_at ?_ (by assumption) _ | with_reducible refine FreshA.set_low ?_ ?_ _ | with_reducible refine FreshA.below ?_ (Below.drew (Below.refl _ _)) | with_reducible refine FreshA.below ?_ (Below.alloc (Below.refl _ _) (Nat.le_refl _) _) | (dsimp only; omega) | (simp; done) | (simp; omega)))
            · refine CurS.mono ?_ (m := m + 200 - 20 * (j : Int) + 13) (by omega)
              (repeat' (first | with_reducible refine CurS.setc ?_ ?_ | with_reducible refine CurS.allo ?_ | with_reducible refine CurS.drw ?_ | with_reducible exact cu215 | (dsimp only; omega) | (simp; done) | (simp; omega)))
            · (repeat' (first | with_reducible exact World.grownBy.refl _ _ | with_reducible exact gw216 | with_reducible refine grownA ?_ | with_reducible refine grownS ?_ ?_ | with_reducible refine grown_drew ?_ | (dsimp only; omega) | (simp; done) | omega))
          case measure => simp [intOf]; omega
      subst hj
      simp only [Nat.add_zero] at hp2
      have hcs : CurS wr b A cs cap (m + 200) := CurS.mono hcr (by omega)
      go_wp2_with (fail)
      refine calls_named ?_
      intro V217 hV
      have hkV217 : wr.heap.size ≤ V217.heap.size := by rw [hV]; first | with_reducible exact Nat.le_refl _ | (simp [World.setCell]; done) | (simp; omega)
      have c218 : V217.cell? ⟨tb, 0, none⟩ = some (.int .i64 dx10) := by rw [hV]; first | ((repeat' (first | with_reducible exact p0 | with_reducible refine cellK_drew ?_ | with_reducible refine cellK_alloc ?_ | with_reducible refine cellK_set ?_ (by dsimp only; omega))); done) | (first | (simp [go_sem, ↓IntWalk.iteOmega, *]; done) | (simp [go_sem, ↓IntWalk.iteOmega, *]; intros; omega))
      have c219 : V217.cell? ⟨tb, 1, none⟩ = some (.int .i64 dx48) := by rw [hV]; first | ((repeat' (first | with_reducible exact p1 | with_reducible refine cellK_drew ?_ | with_reducible refine cellK_alloc ?_ | with_reducible refine cellK_set ?_ (by dsimp only; omega))); done) | (first | (simp [go_sem, ↓IntWalk.iteOmega, *]; done) | (simp [go_sem, ↓IntWalk.iteOmega, *]; intros; omega))
      have c220 : V217.cell? ⟨tb, 2, none⟩ = some (.int .i64 dx29) := by rw [hV]; first | ((repeat' (first | with_reducible exact p2 | with_reducible refine cellK_drew ?_ | with_reducible refine cellK_alloc ?_ | with_reducible refine cellK_set ?_ (by dsimp only; omega))); done) | (first | (simp [go_sem, ↓IntWalk.iteOmega, *]; done) | (simp [go_sem, ↓IntWalk.iteOmega, *]; intros; omega))
      have c221 : V217.cell? ⟨tb, 3, none⟩ = some (.slice A2 fs.length cp2) := by rw [hV]; first | ((repeat' (first | with_reducible exact p3 | with_reducible refine cellK_drew ?_ | with_reducible refine cellK_alloc ?_ | with_reducible refine cellK_set ?_ (by dsimp only; omega))); done) | (first | (simp [go_sem, ↓IntWalk.iteOmega, *]; done) | (simp [go_sem, ↓IntWalk.iteOmega, *]; intros; omega))
      have c222 : V217.cell? ⟨tb, 4, none⟩ = some (.slice A3 ps.length cp3) := by rw [hV]; first | ((repeat' (first | with_reducible exact p4 | with_reducible refine cellK_drew ?_ | with_reducible refine cellK_alloc ?_ | with_reducible refine cellK_set ?_ (by dsimp only; omega))); done) | (first | (simp [go_sem, ↓IntWalk.iteOmega, *]; done) | (simp [go_sem, ↓IntWalk.iteOmega, *]; intros; omega))
      have c223 : V217.cell? ⟨w.heap.size, 0, none⟩ = some (.int .i64 0) := by rw [hV]; first | ((repeat' (first | with_reducible exact p5 | with_reducible refine cellK_drew ?_ | with_reducible refine cellK_alloc ?_ | with_reducible refine cellK_set ?_ (by dsimp only; omega))); done) | (first | (simp [go_sem, ↓IntWalk.iteOmega, *]; done) | (simp [go_sem, ↓IntWalk.iteOmega, *]; intros; omega))
      have c224 : V217.cell? ⟨w.heap.size, 1, none⟩ = some (.int .i64 0) := by rw [hV]; first | ((repeat' (first | with_reducible exact p6 | with_reducible refine cellK_drew ?_ | with_reducible refine cellK_alloc ?_ | with_reducible refine cellK_set ?_ (by dsimp only; omega))); done) | (first | (simp [go_sem, ↓IntWalk.iteOmega, *]; done) | (simp [go_sem, ↓IntWalk.iteOmega, *]; intros; omega))
      have c225 : V217.cell? ⟨w.heap.size, 2, none⟩ = some (.int .i64 0) := by rw [hV]; first | ((repeat' (first | with_reducible exact p7 | with_reducible refine cellK_drew ?_ | with_reducible refine cellK_alloc ?_ | with_reducible refine cellK_set ?_ (by dsimp only; omega))); done) | (first | (simp [go_sem, ↓IntWalk.iteOmega, *]; done) | (simp [go_sem, ↓IntWalk.iteOmega, *]; intros; omega))
      have c226 : V217.cell? ⟨w.heap.size, 3, none⟩ = some (.slice none 0 0) := by rw [hV]; first | ((repeat' (first | with_reducible exact p8 | with_reducible refine cellK_drew ?_ | with_reducible refine cellK_alloc ?_ | with_reducible refine cellK_set ?_ (by dsimp only; omega))); done) | (first | (simp [go_sem, ↓IntWalk.iteOmega, *]; done) | (simp [go_sem, ↓IntWalk.iteOmega, *]; intros; omega))
      have c227 : V217.cell? ⟨w.heap.size, 4, none⟩ = some (.slice none 0 0) := by rw [hV]; first | ((repeat' (first | with_reducible exact p9 | with_reducible refine cellK_drew ?_ | with_reducible refine cellK_alloc ?_ | with_reducible refine cellK_set ?_ (by dsimp only; omega))); done) | (first | (simp [go_sem, ↓IntWalk.iteOmega, *]; done) | (simp [go_sem, ↓IntWalk.iteOmega, *]; intros; omega))
      have z228 : ∀ o, V217.frozen? ⟨w.heap.size, o, none⟩ = false := by rw [hV]; first | ((repeat' (first | with_reducible exact pz0 | with_reducible refine frozK_drew ?_ | with_reducible refine frozK_alloc ?_ | with_reducible refine frozK_set ?_)); done) | (intro o; first | (simp [go_sem, ↓IntWalk.iteOmega, *]; done) | (simp [go_sem, ↓IntWalk.iteOmega, *]; intros; omega))
      have z229 : ∀ o, V217.frozen? ⟨tb, o, none⟩ = false := by rw [hV]; first | ((repeat' (first | with_reducible exact pz1 | with_reducible refine frozK_drew ?_ | with_reducible refine frozK_alloc ?_ | with_reducible refine frozK_set ?_)); done) | (intro o; first | (simp [go_sem, ↓IntWalk.iteOmega, *]; done) | (simp [go_sem, ↓IntWalk.iteOmega, *]; intros; omega))
      have R230 : Hid (FreshA cIn 1 3 (tb + 1) V217 A2 cp2 fs) := hid (by rw [hV]; (repeat' (first | with_reducible exact RF.out | with_reducible refine FreshA.set_at ?_ (by assumption) _ | with_reducible refine FreshA.set_low ?_ ?_ _ | with_reducible refine FreshA.below ?_ (Below.drew (Below.refl _ _)) | with_reducible refine FreshA.below ?_ (Below.alloc (Below.refl _ _) (Nat.le_refl _) _) | (dsimp only; omega) | (simp; done) | (simp; omega))))
      have R231 : Hid (FreshA cPu 3 71 (tb + 1) V217 A3 cp3 ps) := hid (by rw [hV]; (repeat' (first | with_reducible exact RP.out | with_reducible refine FreshA.set_at ?_ (by assumption) _ | with_reducible refine FreshA.set_low ?_ ?_ _ | with_reducible refine FreshA.below ?_ (Below.drew (Below.refl _ _)) | with_reducible refine FreshA.below ?_ (Below.alloc (Below.refl _ _) (Nat.le_refl _) _) | (dsimp only; omega) | (simp; done) | (simp; omega))))
      have cu232 : CurS V217 b A cs cap (m + 200) := by rw [hV]; (repeat' (first | with_reducible refine CurS.setc ?_ ?_ | with_reducible refine CurS.allo ?_ | with_reducible refine CurS.drw ?_ | with_reducible exact hcs | (dsimp only; omega) | (simp; done) | (simp; omega)))
      have gw233 : w.grownBy V217 (some b) := by rw [hV]; (repeat' (first | with_reducible exact World.grownBy.refl _ _ | with_reducible exact hgr | with_reducible refine grownA ?_ | with_reducible refine grownS ?_ ?_ | with_reducible refine grown_drew ?_ | (dsimp only; omega) | (simp; done) | omega))
      have hzgw233 := gw233.size
      have hlcu232 := cu232.lt
      clear p0 p1 p2 p3 p4 p5 p6 p7 p8 p9 pz0 pz1 RF RP hcs hgr
      clear hV
      refine (c_pick b A cs cap (m + 200) (60) _ cu232 hby (by omega) hl (by omega)).mono ?_
      rintro e W235 ⟨dx234, rfl, hdx234a, hdx234b, hcn, hg⟩
      have hkW235 := hg.size
      have c236 : W235.cell? ⟨tb, 0, none⟩ = some (.int .i64 dx10) := (cellRow hg (tb) 0).trans (by rw [if_pos ⟨by omega, by omega⟩]; exact c218)
      have c237 : W235.cell? ⟨tb, 1, none⟩ = some (.int .i64 dx48) := (cellRow hg (tb) 1).trans (by rw [if_pos ⟨by omega, by omega⟩]; exact c219)
      have c238 : W235.cell? ⟨tb, 2, none⟩ = some (.int .i64 dx29) := (cellRow hg (tb) 2).trans (by rw [if_pos ⟨by omega, by omega⟩]; exact c220)
      have c239 : W235.cell? ⟨tb, 3, none⟩ = some (.slice A2 fs.length cp2) := (cellRow hg (tb) 3).trans (by rw [if_pos ⟨by omega, by omega⟩]; exact c221)
      have c240 : W235.cell? ⟨tb, 4, none⟩ = some (.slice A3 ps.length cp3) := (cellRow hg (tb) 4).trans (by rw [if_pos ⟨by omega, by omega⟩]; exact c222)
      have c241 : W235.cell? ⟨w.heap.size, 0, none⟩ = some (.int .i64 0) := (cellRow hg (w.heap.size) 0).trans (by rw [if_pos ⟨by omega, by omega⟩]; exact c223)
      have c242 : W235.cell? ⟨w.heap.size, 1, none⟩ = some (.int .i64 0) := (cellRow hg (w.heap.size) 1).trans (by rw [if_pos ⟨by omega, by omega⟩]; exact c224)
      have c243 : W235.cell? ⟨w.heap.size, 2, none⟩ = some (.int .i64 0) := (cellRow hg (w.heap.size) 2).trans (by rw [if_pos ⟨by omega, by omega⟩]; exact c225)
      have c244 : W235.cell? ⟨w.heap.size, 3, none⟩ = some (.slice none 0 0) := (cellRow hg (w.heap.size) 3).trans (by rw [if_pos ⟨by omega, by omega⟩]; exact c226)
      have c245 : W235.cell? ⟨w.heap.size, 4, none⟩ = some (.slice none 0 0) := (cellRow hg (w.heap.size) 4).trans (by rw [if_pos ⟨by omega, by omega⟩]; exact c227)
      have z246 : ∀ o, W235.frozen? ⟨w.heap.size, o, none⟩ = false := fun o => (frozRow hg (w.heap.size) o).trans (by rw [if_pos ⟨by omega, by omega⟩]; exact z228 o)
      have z247 : ∀ o, W235.frozen? ⟨tb, o, none⟩ = false := fun o => (frozRow hg (tb) o).trans (by rw [if_pos ⟨by omega, by omega⟩]; exact z229 o)
      have R248 : Hid (FreshA cIn 1 3 (tb + 1) W235 A2 cp2 fs) := hid (FreshA.rowb R230.out hg (by omega))
      have R249 : Hid (FreshA cPu 3 71 (tb + 1) W235 A3 cp3 ps) := hid (FreshA.rowb R231.out hg (by omega))
      have cu250 : CurS W235 b A cs cap (m + 200 + 1) := hcn
      have gw251 : w.grownBy W235 (some b) := grown_trans gw233 hg
      have hzgw251 := gw251.size
      have hlcu250 := cu250.lt
      clear c218 c219 c220 c221 c222 c223 c224 c225 c226 c227 z228 z229 R230 R231 cu232 gw233
      clear hg
      by_cases hq : dx234 = 0
      · subst hq
        go_wp2_with (fail)
        refine calls_named ?_
        intro V252 hV
        have hkV252 : W235.heap.size ≤ V252.heap.size := by rw [hV]; first | with_reducible exact Nat.le_refl _ | (simp [World.setCell]; done) | (simp; omega)
        have c253 : V252.cell? ⟨tb, 0, none⟩ = some (.int .i64 dx10) := by rw [hV]; first | ((repeat' (first | with_reducible exact c236 | with_reducible refine cellK_drew ?_ | with_reducible refine cellK_alloc ?_ | with_reducible refine cellK_set ?_ (by dsimp only; omega))); done) | (first | (simp [go_sem, ↓IntWalk.iteOmega, *]; done) | (simp [go_sem, ↓IntWalk.iteOmega, *]; intros; omega))
        have c254 : V252.cell? ⟨tb, 1, none⟩ = some (.int .i64 dx48) := by rw [hV]; first | ((repeat' (first | with_reducible exact c237 | with_reducible refine cellK_drew ?_ | with_reducible refine cellK_alloc ?_ | with_reducible refine cellK_set ?_ (by dsimp only; omega))); done) | (first | (simp [go_sem, ↓IntWalk.iteOmega, *]; done) | (simp [go_sem, ↓IntWalk.iteOmega, *]; intros; omega))
        have c255 : V252.cell? ⟨tb, 2, none⟩ = some (.int .i64 dx29) := by rw [hV]; first | ((repeat' (first | with_reducible exact c238 | with_reducible refine cellK_drew ?_ | with_reducible refine cellK_alloc ?_ | with_reducible refine cellK_set ?_ (by dsimp only; omega))); done) | (first | (simp [go_sem, ↓IntWalk.iteOmega, *]; done) | (simp [go_sem, ↓IntWalk.iteOmega, *]; intros; omega))
        have c256 : V252.cell? ⟨tb, 3, none⟩ = some (.slice A2 fs.length cp2) := by rw [hV]; first | ((repeat' (first | with_reducible exact c239 | with_reducible refine cellK_drew ?_ | with_reducible refine cellK_alloc ?_ | with_reducible refine cellK_set ?_ (by dsimp only; omega))); done) | (first | (simp [go_sem, ↓IntWalk.iteOmega, *]; done) | (simp [go_sem, ↓IntWalk.iteOmega, *]; intros; omega))
        have c257 : V252.cell? ⟨tb, 4, none⟩ = some (.slice A3 ps.length cp3) := by rw [hV]; first | ((repeat' (first | with_reducible exact c240 | with_reducible refine cellK_drew ?_ | with_reducible refine cellK_alloc ?_ | with_reducible refine cellK_set ?_ (by dsimp only; omega))); done) | (first | (simp [go_sem, ↓IntWalk.iteOmega, *]; done) | (simp [go_sem, ↓IntWalk.iteOmega, *]; intros; omega))
        have c258 : V252.cell? ⟨w.heap.size, 0, none⟩ = some (.int .i64 0) := by rw [hV]; first | ((repeat' (first | with_reducible exact c241 | with_reducible refine cellK_drew ?_ | with_reducible refine cellK_alloc ?_ | with_reducible refine cellK_set ?_ (by dsimp only; omega))); done) | (first | (simp [go_sem, ↓IntWalk.iteOmega, *]; done) | (simp [go_sem, ↓IntWalk.iteOmega, *]; intros; omega))
        have c259 : V252.cell? ⟨w.heap.size, 1, none⟩ = some (.int .i64 0) := by rw [hV]; first | ((repeat' (first | with_reducible exact c242 | with_reducible refine cellK_drew ?_ | with_reducible refine cellK_alloc ?_ | with_reducible refine cellK_set ?_ (by dsimp only; omega))); done) | (first | (simp [go_sem, ↓IntWalk.iteOmega, *]; done) | (simp [go_sem, ↓IntWalk.iteOmega, *]; intros; omega))
        have c260 : V252.cell? ⟨w.heap.size, 2, none⟩ = some (.int .i64 0) := by rw [hV]; first | ((repeat' (first | with_reducible exact c243 | with_reducible refine cellK_drew ?_ | with_reducible refine cellK_alloc ?_ | with_reducible refine cellK_set ?_ (by dsimp only; omega))); done) | (first | (simp [go_sem, ↓IntWalk.iteOmega, *]; done) | (simp [go_sem, ↓IntWalk.iteOmega, *]; intros; omega))
        have c261 : V252.cell? ⟨w.heap.size, 3, none⟩ = some (.slice none 0 0) := by rw [hV]; first | ((repeat' (first | with_reducible exact c244 | with_reducible refine cellK_drew ?_ | with_reducible refine cellK_alloc ?_ | with_reducible refine cellK_set ?_ (by dsimp only; omega))); done) | (first | (simp [go_sem, ↓IntWalk.iteOmega, *]; done) | (simp [go_sem, ↓IntWalk.iteOmega, *]; intros; omega))
        have c262 : V252.cell? ⟨w.heap.size, 4, none⟩ = some (.slice none 0 0) := by rw [hV]; first | ((repeat' (first | with_reducible exact c245 | with_reducible refine cellK_drew ?_ | with_reducible refine cellK_alloc ?_ | with_reducible refine cellK_set ?_ (by dsimp only; omega))); done) | (first | (simp [go_sem, ↓IntWalk.iteOmega, *]; done) | (simp [go_sem, ↓IntWalk.iteOmega, *]; intros; omega))
        have z263 : ∀ o, V252.frozen? ⟨w.heap.size, o, none⟩ = false := by rw [hV]; first | ((repeat' (first | with_reducible exact z246 | with_reducible refine frozK_drew ?_ | with_reducible refine frozK_alloc ?_ | with_reducible refine frozK_set ?_)); done) | (intro o; first | (simp [go_sem, ↓IntWalk.iteOmega, *]; done) | (simp [go_sem, ↓IntWalk.iteOmega, *]; intros; omega))
        have z264 : ∀ o, V252.frozen? ⟨tb, o, none⟩ = false := by rw [hV]; first | ((repeat' (first | with_reducible exact z247 | with_reducible refine frozK_drew ?_ | with_reducible refine frozK_alloc ?_ | with_reducible refine frozK_set ?_)); done) | (intro o; first | (simp [go_sem, ↓IntWalk.iteOmega, *]; done) | (simp [go_sem, ↓IntWalk.iteOmega, *]; intros; omega))
        have R265 : Hid (FreshA cIn 1 3 (tb + 1) V252 A2 cp2 fs) := hid (by rw [hV]; (repeat' (first | with_reducible exact R248.out | with_reducible refine FreshA.set_at ?_ (by assumption) _ | with_reducible refine FreshA.set_low ?_ ?_ _ | with_reducible refine FreshA.below ?_ (Below.drew (Below.refl _ _)) | with_reducible refine FreshA.below ?_ (Below.alloc (Below.refl _ _) (Nat.le_refl _) _) | (dsimp only; omega) | (simp; done) | (simp; omega))))
        have R266 : Hid (FreshA cPu 3 71 (tb + 1) V252 A3 cp3 ps) := hid (by rw [hV]; (repeat' (first | with_reducible exact R249.out | with_reducible refine FreshA.set_at ?_ (by assumption) _ | with_reducible refine FreshA.set_low ?_ ?_ _ | with_reducible refine FreshA.below ?_ (Below.drew (Below.refl _ _)) | with_reducible refine FreshA.below ?_ (Below.alloc (Below.refl _ _) (Nat.le_refl _) _) | (dsimp only; omega) | (simp; done) | (simp; omega))))
        have cu267 : CurS V252 b A cs cap (m + 200 + 1) := by rw [hV]; (repeat' (first | with_reducible refine CurS.setc ?_ ?_ | with_reducible refine CurS.allo ?_ | with_reducible refine CurS.drw ?_ | with_reducible exact cu250 | (dsimp only; omega) | (simp; done) | (simp; omega)))
        have gw268 : w.grownBy V252 (some b) := by rw [hV]; (repeat' (first | with_reducible exact World.grownBy.refl _ _ | with_reducible exact gw251 | with_reducible refine grownA ?_ | with_reducible refine grownS ?_ ?_ | with_reducible refine grown_drew ?_ | (dsimp only; omega) | (simp; done) | omega))
        have hzgw268 := gw268.size
        have hlcu267 := cu267.lt
        clear c236 c237 c238 c239 c240 c241 c242 c243 c244 c245 z246 z247 R248 R249 cu250 gw251
        refine (c_among b A cs cap (m + 200 + 1) _ ([-1, 200] : List Int) _ (-1) (200) _ cu267 hby (by omega) hl (by rw [hV]; exact Rds.of_lit (by simp) (by intro i x h; rcases i with _ | _ | i <;> simp at h ⊢ <;> first | exact h | omega)) (by simp) (by intro a ha; cases ha; simp; omega) (fun k hk => (show ∀ x ∈ ([-1, 200] : List Int), -1 ≤ x ∧ x ≤ 200 by intro x hx; simp at hx; omega) _ (List.getElem_mem hk))).mono ?_
        rintro e W270 ⟨dx269, rfl, hdx269a, hdx269b, hcn, hg⟩
        clear hV
        have hkW270 := hg.size
        have c271 : W270.cell? ⟨tb, 0, none⟩ = some (.int .i64 dx10) := (cellRow hg (tb) 0).trans (by rw [if_pos ⟨by omega, by omega⟩]; exact c253)
        have c272 : W270.cell? ⟨tb, 1, none⟩ = some (.int .i64 dx48) := (cellRow hg (tb) 1).trans (by rw [if_pos ⟨by omega, by omega⟩]; exact c254)
        have c273 : W270.cell? ⟨tb, 2, none⟩ = some (.int .i64 dx29) := (cellRow hg (tb) 2).trans (by rw [if_pos ⟨by omega, by omega⟩]; exact c255)
        have c274 : W270.cell? ⟨tb, 3, none⟩ = some (.slice A2 fs.length cp2) := (cellRow hg (tb) 3).trans (by rw [if_pos ⟨by omega, by omega⟩]; exact c256)
        have c275 : W270.cell? ⟨tb, 4, none⟩ = some (.slice A3 ps.length cp3) := (cellRow hg (tb) 4).trans (by rw [if_pos ⟨by omega, by omega⟩]; exact c257)
        have c276 : W270.cell? ⟨w.heap.size, 0, none⟩ = some (.int .i64 0) := (cellRow hg (w.heap.size) 0).trans (by rw [if_pos ⟨by omega, by omega⟩]; exact c258)
        have c277 : W270.cell? ⟨w.heap.size, 1, none⟩ = some (.int .i64 0) := (cellRow hg (w.heap.size) 1).trans (by rw [if_pos ⟨by omega, by omega⟩]; exact c259)
        have c278 : W270.cell? ⟨w.heap.size, 2, none⟩ = some (.int .i64 0) := (cellRow hg (w.heap.size) 2).trans (by rw [if_pos ⟨by omega, by omega⟩]; exact c260)
        have c279 : W270.cell? ⟨w.heap.size, 3, none⟩ = some (.slice none 0 0) := (cellRow hg (w.heap.size) 3).trans (by rw [if_pos ⟨by omega, by omega⟩]; exact c261)
        have c280 : W270.cell? ⟨w.heap.size, 4, none⟩ = some (.slice none 0 0) := (cellRow hg (w.heap.size) 4).trans (by rw [if_pos ⟨by omega, by omega⟩]; exact c262)
        have z281 : ∀ o, W270.frozen? ⟨w.heap.size, o, none⟩ = false := fun o => (frozRow hg (w.heap.size) o).trans (by rw [if_pos ⟨by omega, by omega⟩]; exact z263 o)
        have z282 : ∀ o, W270.frozen? ⟨tb, o, none⟩ = false := fun o => (frozRow hg (tb) o).trans (by rw [if_pos ⟨by omega, by omega⟩]; exact z264 o)
        have R283 : Hid (FreshA cIn 1 3 (tb + 1) W270 A2 cp2 fs) := hid (FreshA.rowb R265.out hg (by omega))
        have R284 : Hid (FreshA cPu 3 71 (tb + 1) W270 A3 cp3 ps) := hid (FreshA.rowb R266.out hg (by omega))
        have cu285 : CurS W270 b A cs cap (m + 200 + 1 + 1) := hcn
        have gw286 : w.grownBy W270 (some b) := grown_trans gw268 hg
        have hzgw286 := gw286.size
        have hlcu285 := cu285.lt
        clear c253 c254 c255 c256 c257 c258 c259 c260 c261 c262 z263 z264 R265 R266 cu267 gw268
        clear hg
        go_wp2_with (fail)
        refine post_named ?_
        intro V287 hV
        have hkV287 : W270.heap.size ≤ V287.heap.size := by rw [hV]; first | with_reducible exact Nat.le_refl _ | (simp [World.setCell]; done) | (simp; omega)
        have R288 : Hid (FreshA cIn 1 3 (tb + 1) V287 A2 cp2 fs) := hid (by rw [hV]; (repeat' (first | with_reducible exact R283.out | with_reducible refine FreshA.set_at ?_ (by assumption) _ | with_reducible refine FreshA.set_low ?_ ?_ _ | with_reducible refine FreshA.below ?_ (Below.drew (Below.refl _ _)) | with_reducible refine FreshA.below ?_ (Below.alloc (Below.refl _ _) (Nat.le_refl _) _) | (dsimp only; omega) | (simp; done) | (simp; omega))))
        have R289 : Hid (FreshA cPu 3 71 (tb + 1) V287 A3 cp3 ps) := hid (by rw [hV]; (repeat' (first | with_reducible exact R284.out | with_reducible refine FreshA.set_at ?_ (by assumption) _ | with_reducible refine FreshA.set_low ?_ ?_ _ | with_reducible refine FreshA.below ?_ (Below.drew (Below.refl _ _)) | with_reducible refine FreshA.below ?_ (Below.alloc (Below.refl _ _) (Nat.le_refl _) _) | (dsimp only; omega) | (simp; done) | (simp; omega))))
        have cu290 : CurS V287 b A cs cap (m + 200 + 1 + 1) := by rw [hV]; (repeat' (first | with_reducible refine CurS.setc ?_ ?_ | with_reducible refine CurS.allo ?_ | with_reducible refine CurS.drw ?_ | with_reducible exact cu285 | (dsimp only; omega) | (simp; done) | (simp; omega)))
        have gw291 : w.grownBy V287 (some b) := by rw [hV]; (repeat' (first | with_reducible exact World.grownBy.refl _ _ | with_reducible exact gw286 | with_reducible refine grownA ?_ | with_reducible refine grownS ?_ ?_ | with_reducible refine grown_drew ?_ | (dsimp only; omega) | (simp; done) | omega))
        have hzgw291 := gw291.size
        have hlcu290 := cu290.lt
        clear R283 R284 cu285 gw286
        have r0 : V287.cell? ⟨w.heap.size, 0, none⟩ = some (.int .i64 dx269) := by rw [hV]; first | (simp [go_sem, ↓IntWalk.iteOmega, *]; done) | (simp [go_sem, ↓IntWalk.iteOmega, *]; intros; omega)
        have r1 : V287.cell? ⟨w.heap.size, 1, none⟩ = some (.int .i64 dx48) := by rw [hV]; first | (simp [go_sem, ↓IntWalk.iteOmega, *]; done) | (simp [go_sem, ↓IntWalk.iteOmega, *]; intros; omega)
        have r2 : V287.cell? ⟨w.heap.size, 2, none⟩ = some (.int .i64 dx29) := by rw [hV]; first | (simp [go_sem, ↓IntWalk.iteOmega, *]; done) | (simp [go_sem, ↓IntWalk.iteOmega, *]; intros; omega)
        have r3 : V287.cell? ⟨w.heap.size, 3, none⟩ = some (.slice A2 fs.length cp2) := by rw [hV]; first | (simp [go_sem, ↓IntWalk.iteOmega, *]; done) | (simp [go_sem, ↓IntWalk.iteOmega, *]; intros; omega)
        have r4 : V287.cell? ⟨w.heap.size, 4, none⟩ = some (.slice A3 ps.length cp3) := by rw [hV]; first | (simp [go_sem, ↓IntWalk.iteOmega, *]; done) | (simp [go_sem, ↓IntWalk.iteOmega, *]; intros; omega)
        clear hV
        refine bodyPost_ret (v := .agg #[.int .i64 dx269, .int .i64 dx48, .int .i64 dx29, .slice A2 fs.length cp2, .slice A3 ps.length cp3]) ?_ rfl ⟨dx269, dx48, dx29, A2, cp2, fs, A3, cp3, ps, rfl, FreshA.mono R288.out (by omega), FreshA.mono R289.out (by omega), by first | omega | (simp; omega) | simp, by first | omega | (simp; omega), CurS.mono cu290 (by omega), gw291⟩
        simp [results, Try.results69, go_sem, r0, r1, r2, r3, r4]
      by_cases hq : dx234 = 1
      · subst hq
        go_wp2_with (fail)
        refine calls_named ?_
        intro V292 hV
        have hkV292 : W235.heap.size ≤ V292.heap.size := by rw [hV]; first | with_reducible exact Nat.le_refl _ | (simp [World.setCell]; done) | (simp; omega)
        have c293 : V292.cell? ⟨tb, 0, none⟩ = some (.int .i64 dx10) := by rw [hV]; first | ((repeat' (first | with_reducible exact c236 | with_reducible refine cellK_drew ?_ | with_reducible refine cellK_alloc ?_ | with_reducible refine cellK_set ?_ (by dsimp only; omega))); done) | (first | (simp [go_sem, ↓IntWalk.iteOmega, *]; done) | (simp [go_sem, ↓IntWalk.iteOmega, *]; intros; omega))
        have c294 : V292.cell? ⟨tb, 1, none⟩ = some (.int .i64 dx48) := by rw [hV]; first | ((repeat' (first | with_reducible exact c237 | with_reducible refine cellK_drew ?_ | with_reducible refine cellK_alloc ?_ | with_reducible refine cellK_set ?_ (by dsimp only; omega))); done) | (first | (simp [go_sem, ↓IntWalk.iteOmega, *]; done) | (simp [go_sem, ↓IntWalk.iteOmega, *]; intros; omega))
        have c295 : V292.cell? ⟨tb, 2, none⟩ = some (.int .i64 dx29) := by rw [hV]; first | ((repeat' (first | with_reducible exact c238 | with_reducible refine cellK_drew ?_ | with_reducible refine cellK_alloc ?_ | with_reducible refine cellK_set ?_ (by dsimp only; omega))); done) | (first | (simp [go_sem, ↓IntWalk.iteOmega, *]; done) | (simp [go_sem, ↓IntWalk.iteOmega, *]; intros; omega))
        have c296 : V292.cell? ⟨tb, 3, none⟩ = some (.slice A2 fs.length cp2) := by rw [hV]; first | ((repeat' (first | with_reducible exact c239 | with_reducible refine cellK_drew ?_ | with_reducible refine cellK_alloc ?_ | with_reducible refine cellK_set ?_ (by dsimp only; omega))); done) | (first | (simp [go_sem, ↓IntWalk.iteOmega, *]; done) | (simp [go_sem, ↓IntWalk.iteOmega, *]; intros; omega))
        have c297 : V292.cell? ⟨tb, 4, none⟩ = some (.slice A3 ps.length cp3) := by rw [hV]; first | ((repeat' (first | with_reducible exact c240 | with_reducible refine cellK_drew ?_ | with_reducible refine cellK_alloc ?_ | with_reducible refine cellK_set ?_ (by dsimp only; omega))); done) | (first | (simp [go_sem, ↓IntWalk.iteOmega, *]; done) | (simp [go_sem, ↓IntWalk.iteOmega, *]; intros; omega))
        have c298 : V292.cell? ⟨w.heap.size, 0, none⟩ = some (.int .i64 0) := by rw [hV]; first | ((repeat' (first | with_reducible exact c241 | with_reducible refine cellK_drew ?_ | with_reducible refine cellK_alloc ?_ | with_reducible refine cellK_set ?_ (by dsimp only; omega))); done) | (first | (simp [go_sem, ↓IntWalk.iteOmega, *]; done) | (simp [go_sem, ↓IntWalk.iteOmega, *]; intros; omega))
        have c299 : V292.cell? ⟨w.heap.size, 1, none⟩ = some (.int .i64 0) := by rw [hV]; first | ((repeat' (first | with_reducible exact c242 | with_reducible refine cellK_drew ?_ | with_reducible refine cellK_alloc ?_ | with_reducible refine cellK_set ?_ (by dsimp only; omega))); done) | (first | (simp [go_sem, ↓IntWalk.iteOmega, *]; done) | (simp [go_sem, ↓IntWalk.iteOmega, *]; intros; omega))
        have c300 : V292.cell? ⟨w.heap.size, 2, none⟩ = some (.int .i64 0) := by rw [hV]; first | ((repeat' (first | with_reducible exact c243 | with_reducible refine cellK_drew ?_ | with_reducible refine cellK_alloc ?_ | with_reducible refine cellK_set ?_ (by dsimp only; omega))); done) | (first | (simp [go_sem, ↓IntWalk.iteOmega, *]; done) | (simp [go_sem, ↓IntWalk.iteOmega, *]; intros; omega))
        have c301 : V292.cell? ⟨w.heap.size, 3, none⟩ = some (.slice none 0 0) := by rw [hV]; first | ((repeat' (first | with_reducible exact c244 | with_reducible refine cellK_drew ?_ | with_reducible refine cellK_alloc ?_ | with_reducible refine cellK_set ?_ (by dsimp only; omega))); done) | (first | (simp [go_sem, ↓IntWalk.iteOmega, *]; done) | (simp [go_sem, ↓IntWalk.iteOmega, *]; intros; omega))
        have c302 : V292.cell? ⟨w.heap.size, 4, none⟩ = some (.slice none 0 0) := by rw [hV]; first | ((repeat' (first | with_reducible exact c245 | with_reducible refine cellK_drew ?_ | with_reducible refine cellK_alloc ?_ | with_reducible refine cellK_set ?_ (by dsimp only; omega))); done) | (first | (simp [go_sem, ↓IntWalk.iteOmega, *]; done) | (simp [go_sem, ↓IntWalk.iteOmega, *]; intros; omega))
        have z303 : ∀ o, V292.frozen? ⟨w.heap.size, o, none⟩ = false := by rw [hV]; first | ((repeat' (first | with_reducible exact z246 | with_reducible refine frozK_drew ?_ | with_reducible refine frozK_alloc ?_ | with_reducible refine frozK_set ?_)); done) | (intro o; first | (simp [go_sem, ↓IntWalk.iteOmega, *]; done) | (simp [go_sem, ↓IntWalk.iteOmega, *]; intros; omega))
        have z304 : ∀ o, V292.frozen? ⟨tb, o, none⟩ = false := by rw [hV]; first | ((repeat' (first | with_reducible exact z247 | with_reducible refine frozK_drew ?_ | with_reducible refine frozK_alloc ?_ | with_reducible refine frozK_set ?_)); done) | (intro o; first | (simp [go_sem, ↓IntWalk.iteOmega, *]; done) | (simp [go_sem, ↓IntWalk.iteOmega, *]; intros; omega))
        have R305 : Hid (FreshA cIn 1 3 (tb + 1) V292 A2 cp2 fs) := hid (by rw [hV]; (repeat' (first | with_reducible exact R248.out | with_reducible refine FreshA.set_at ?_ (by assumption) _ | with_reducible refine FreshA.set_low ?_ ?_ _ | with_reducible refine FreshA.below ?_ (Below.drew (Below.refl _ _)) | with_reducible refine FreshA.below ?_ (Below.alloc (Below.refl _ _) (Nat.le_refl _) _) | (dsimp only; omega) | (simp; done) | (simp; omega))))
        have R306 : Hid (FreshA cPu 3 71 (tb + 1) V292 A3 cp3 ps) := hid (by rw [hV]; (repeat' (first | with_reducible exact R249.out | with_reducible refine FreshA.set_at ?_ (by assumption) _ | with_reducible refine FreshA.set_low ?_ ?_ _ | with_reducible refine FreshA.below ?_ (Below.drew (Below.refl _ _)) | with_reducible refine FreshA.below ?_ (Below.alloc (Below.refl _ _) (Nat.le_refl _) _) | (dsimp only; omega) | (simp; done) | (simp; omega))))
        have cu307 : CurS V292 b A cs cap (m + 200 + 1) := by rw [hV]; (repeat' (first | with_reducible refine CurS.setc ?_ ?_ | with_reducible refine CurS.allo ?_ | with_reducible refine CurS.drw ?_ | with_reducible exact cu250 | (dsimp only; omega) | (simp; done) | (simp; omega)))
        have gw308 : w.grownBy V292 (some b) := by rw [hV]; (repeat' (first | with_reducible exact World.grownBy.refl _ _ | with_reducible exact gw251 | with_reducible refine grownA ?_ | with_reducible refine grownS ?_ ?_ | with_reducible refine grown_drew ?_ | (dsimp only; omega) | (simp; done) | omega))
        have hzgw308 := gw308.size
        have hlcu307 := cu307.lt
        clear c236 c237 c238 c239 c240 c241 c242 c243 c244 c245 z246 z247 R248 R249 cu250 gw251
        refine (c_among b A cs cap (m + 200 + 1) _ ([99, 501] : List Int) _ (99) (501) _ cu307 hby (by omega) hl (by rw [hV]; exact Rds.of_lit (by simp) (by intro i x h; rcases i with _ | _ | i <;> simp at h ⊢ <;> first | exact h | omega)) (by simp) (by intro a ha; cases ha; simp; omega) (fun k hk => (show ∀ x ∈ ([99, 501] : List Int), 99 ≤ x ∧ x ≤ 501 by intro x hx; simp at hx; omega) _ (List.getElem_mem hk))).mono ?_
        rintro e W310 ⟨dx309, rfl, hdx309a, hdx309b, hcn, hg⟩
        clear hV
        have hkW310 := hg.size
        have c311 : W310.cell? ⟨tb, 0, none⟩ = some (.int .i64 dx10) := (cellRow hg (tb) 0).trans (by rw [if_pos ⟨by omega, by omega⟩]; exact c293)
        have c312 : W310.cell? ⟨tb, 1, none⟩ = some (.int .i64 dx48) := (cellRow hg (tb) 1).trans (by rw [if_pos ⟨by omega, by omega⟩]; exact c294)
        have c313 : W310.cell? ⟨tb, 2, none⟩ = some (.int .i64 dx29) := (cellRow hg (tb) 2).trans (by rw [if_pos ⟨by omega, by omega⟩]; exact c295)
        have c314 : W310.cell? ⟨tb, 3, none⟩ = some (.slice A2 fs.length cp2) := (cellRow hg (tb) 3).trans (by rw [if_pos ⟨by omega, by omega⟩]; exact c296)
        have c315 : W310.cell? ⟨tb, 4, none⟩ = some (.slice A3 ps.length cp3) := (cellRow hg (tb) 4).trans (by rw [if_pos ⟨by omega, by omega⟩]; exact c297)
        have c316 : W310.cell? ⟨w.heap.size, 0, none⟩ = some (.int .i64 0) := (cellRow hg (w.heap.size) 0).trans (by rw [if_pos ⟨by omega, by omega⟩]; exact c298)
        have c317 : W310.cell? ⟨w.heap.size, 1, none⟩ = some (.int .i64 0) := (cellRow hg (w.heap.size) 1).trans (by rw [if_pos ⟨by omega, by omega⟩]; exact c299)
        have c318 : W310.cell? ⟨w.heap.size, 2, none⟩ = some (.int .i64 0) := (cellRow hg (w.heap.size) 2).trans (by rw [if_pos ⟨by omega, by omega⟩]; exact c300)
        have c319 : W310.cell? ⟨w.heap.size, 3, none⟩ = some (.slice none 0 0) := (cellRow hg (w.heap.size) 3).trans (by rw [if_pos ⟨by omega, by omega⟩]; exact c301)
        have c320 : W310.cell? ⟨w.heap.size, 4, none⟩ = some (.slice none 0 0) := (cellRow hg (w.heap.size) 4).trans (by rw [if_pos ⟨by omega, by omega⟩]; exact c302)
        have z321 : ∀ o, W310.frozen? ⟨w.heap.size, o, none⟩ = false := fun o => (frozRow hg (w.heap.size) o).trans (by rw [if_pos ⟨by omega, by omega⟩]; exact z303 o)
        have z322 : ∀ o, W310.frozen? ⟨tb, o, none⟩ = false := fun o => (frozRow hg (tb) o).trans (by rw [if_pos ⟨by omega, by omega⟩]; exact z304 o)
        have R323 : Hid (FreshA cIn 1 3 (tb + 1) W310 A2 cp2 fs) := hid (FreshA.rowb R305.out hg (by omega))
        have R324 : Hid (FreshA cPu 3 71 (tb + 1) W310 A3 cp3 ps) := hid (FreshA.rowb R306.out hg (by omega))
        have cu325 : CurS W310 b A cs cap (m + 200 + 1 + 1) := hcn
        have gw326 : w.grownBy W310 (some b) := grown_trans gw308 hg
        have hzgw326 := gw326.size
        have hlcu325 := cu325.lt
        clear c293 c294 c295 c296 c297 c298 c299 c300 c301 c302 z303 z304 R305 R306 cu307 gw308
        clear hg
        go_wp2_with (fail)
        refine post_named ?_
        intro V327 hV
        have hkV327 : W310.heap.size ≤ V327.heap.size := by rw [hV]; first | with_reducible exact Nat.le_refl _ | (simp [World.setCell]; done) | (simp; omega)
        have R328 : Hid (FreshA cIn 1 3 (tb + 1) V327 A2 cp2 fs) := hid (by rw [hV]; (repeat' (first | with_reducible exact R323.out | with_reducible refine FreshA.set_at ?_ (by assumption) _ | with_reducible refine FreshA.set_low ?_ ?_ _ | with_reducible refine FreshA.below ?_ (Below.drew (Below.refl _ _)) | with_reducible refine FreshA.below ?_ (Below.alloc (Below.refl _ _) (Nat.le_refl _) _) | (dsimp only; omega) | (simp; done) | (simp; omega))))
        have R329 : Hid (FreshA cPu 3 71 (tb + 1) V327 A3 cp3 ps) := hid (by rw [hV]; (repeat' (first | with_reducible exact R324.out | with_reducible refine FreshA.set_at ?_ (by assumption) _ | with_reducible refine FreshA.set_low ?_ ?_ _ | with_reducible refine FreshA.below ?_ (Below.drew (Below.refl _ _)) | with_reducible refine FreshA.below ?_ (Below.alloc (Below.refl _ _) (Nat.le_refl _) _) | (dsimp only; omega) | (simp; done) | (simp; omega))))
        have cu330 : CurS V327 b A cs cap (m + 200 + 1 + 1) := by rw [hV]; (repeat' (first | with_reducible refine CurS.setc ?_ ?_ | with_reducible refine CurS.allo ?_ | with_reducible refine CurS.drw ?_ | with_reducible exact cu325 | (dsimp only; omega) | (simp; done) | (simp; omega)))
        have gw331 : w.grownBy V327 (some b) := by rw [hV]; (repeat' (first | with_reducible exact World.grownBy.refl _ _ | with_reducible exact gw326 | with_reducible refine grownA ?_ | with_reducible refine grownS ?_ ?_ | with_reducible refine grown_drew ?_ | (dsimp only; omega) | (simp; done) | omega))
        have hzgw331 := gw331.size
        have hlcu330 := cu330.lt
        clear R323 R324 cu325 gw326
        have r0 : V327.cell? ⟨w.heap.size, 0, none⟩ = some (.int .i64 dx10) := by rw [hV]; first | (simp [go_sem, ↓IntWalk.iteOmega, *]; done) | (simp [go_sem, ↓IntWalk.iteOmega, *]; intros; omega)
        have r1 : V327.cell? ⟨w.heap.size, 1, none⟩ = some (.int .i64 dx309) := by rw [hV]; first | (simp [go_sem, ↓IntWalk.iteOmega, *]; done) | (simp [go_sem, ↓IntWalk.iteOmega, *]; intros; omega)
        have r2 : V327.cell? ⟨w.heap.size, 2, none⟩ = some (.int .i64 dx29) := by rw [hV]; first | (simp [go_sem, ↓IntWalk.iteOmega, *]; done) | (simp [go_sem, ↓IntWalk.iteOmega, *]; intros; omega)
        have r3 : V327.cell? ⟨w.heap.size, 3, none⟩ = some (.slice A2 fs.length cp2) := by rw [hV]; first | (simp [go_sem, ↓IntWalk.iteOmega, *]; done) | (simp [go_sem, ↓IntWalk.iteOmega, *]; intros; omega)
        have r4 : V327.cell? ⟨w.heap.size, 4, none⟩ = some (.slice A3 ps.length cp3) := by rw [hV]; first | (simp [go_sem, ↓IntWalk.iteOmega, *]; done) | (simp [go_sem, ↓IntWalk.iteOmega, *]; intros; omega)
        clear hV
        refine bodyPost_ret (v := .agg #[.int .i64 dx10, .int .i64 dx309, .int .i64 dx29, .slice A2 fs.length cp2, .slice A3 ps.length cp3]) ?_ rfl ⟨dx10, dx309, dx29, A2, cp2, fs, A3, cp3, ps, rfl, FreshA.mono R328.out (by omega), FreshA.mono R329.out (by omega), by first | omega | (simp; omega) | simp, by first | omega | (simp; omega), CurS.mono cu330 (by omega), gw331⟩
        simp [results, Try.results69, go_sem, r0, r1, r2, r3, r4]
      by_cases hq : dx234 = 2
      · subst hq
        obtain ⟨gf, rfl, hBf, hOf⟩ := FreshA.row R248.out (by omega)
        clear hOf
        go_wp2_with (fail)
        refine wp_named ?_
        intro V332 hV
        have hkV332 : W235.heap.size ≤ V332.heap.size := by rw [hV]; first | with_reducible exact Nat.le_refl _ | (simp [World.setCell]; done) | (simp; omega)
        have c333 : V332.cell? ⟨tb, 0, none⟩ = some (.int .i64 dx10) := by rw [hV]; first | ((repeat' (first | with_reducible exact c236 | with_reducible refine cellK_drew ?_ | with_reducible refine cellK_alloc ?_ | with_reducible refine cellK_set ?_ (by dsimp only; omega))); done) | (first | (simp [go_sem, ↓IntWalk.iteOmega, *]; done) | (simp [go_sem, ↓IntWalk.iteOmega, *]; intros; omega))
        have c334 : V332.cell? ⟨tb, 1, none⟩ = some (.int .i64 dx48) := by rw [hV]; first | ((repeat' (first | with_reducible exact c237 | with_reducible refine cellK_drew ?_ | with_reducible refine cellK_alloc ?_ | with_reducible refine cellK_set ?_ (by dsimp only; omega))); done) | (first | (simp [go_sem, ↓IntWalk.iteOmega, *]; done) | (simp [go_sem, ↓IntWalk.iteOmega, *]; intros; omega))
        have c335 : V332.cell? ⟨tb, 2, none⟩ = some (.int .i64 dx29) := by rw [hV]; first | ((repeat' (first | with_reducible exact c238 | with_reducible refine cellK_drew ?_ | with_reducible refine cellK_alloc ?_ | with_reducible refine cellK_set ?_ (by dsimp only; omega))); done) | (first | (simp [go_sem, ↓IntWalk.iteOmega, *]; done) | (simp [go_sem, ↓IntWalk.iteOmega, *]; intros; omega))
        have c336 : V332.cell? ⟨tb, 3, none⟩ = some (.slice (some ⟨gf, 0, none⟩) fs.length cp2) := by rw [hV]; first | ((repeat' (first | with_reducible exact c239 | with_reducible refine cellK_drew ?_ | with_reducible refine cellK_alloc ?_ | with_reducible refine cellK_set ?_ (by dsimp only; omega))); done) | (first | (simp [go_sem, ↓IntWalk.iteOmega, *]; done) | (simp [go_sem, ↓IntWalk.iteOmega, *]; intros; omega))
        have c337 : V332.cell? ⟨tb, 4, none⟩ = some (.slice A3 ps.length cp3) := by rw [hV]; first | ((repeat' (first | with_reducible exact c240 | with_reducible refine cellK_drew ?_ | with_reducible refine cellK_alloc ?_ | with_reducible refine cellK_set ?_ (by dsimp only; omega))); done) | (first | (simp [go_sem, ↓IntWalk.iteOmega, *]; done) | (simp [go_sem, ↓IntWalk.iteOmega, *]; intros; omega))
        have c338 : V332.cell? ⟨w.heap.size, 0, none⟩ = some (.int .i64 0) := by rw [hV]; first | ((repeat' (first | with_reducible exact c241 | with_reducible refine cellK_drew ?_ | with_reducible refine cellK_alloc ?_ | with_reducible refine cellK_set ?_ (by dsimp only; omega))); done) | (first | (simp [go_sem, ↓IntWalk.iteOmega, *]; done) | (simp [go_sem, ↓IntWalk.iteOmega, *]; intros; omega))
        have c339 : V332.cell? ⟨w.heap.size, 1, none⟩ = some (.int .i64 0) := by rw [hV]; first | ((repeat' (first | with_reducible exact c242 | with_reducible refine cellK_drew ?_ | with_reducible refine cellK_alloc ?_ | with_reducible refine cellK_set ?_ (by dsimp only; omega))); done) | (first | (simp [go_sem, ↓IntWalk.iteOmega, *]; done) | (simp [go_sem, ↓IntWalk.iteOmega, *]; intros; omega))
        have c340 : V332.cell? ⟨w.heap.size, 2, none⟩ = some (.int .i64 0) := by rw [hV]; first | ((repeat' (first | with_reducible exact c243 | with_reducible refine cellK_drew ?_ | with_reducible refine cellK_alloc ?_ | with_reducible refine cellK_set ?_ (by dsimp only; omega))); done) | (first | (simp [go_sem, ↓IntWalk.iteOmega, *]; done) | (simp [go_sem, ↓IntWalk.iteOmega, *]; intros; omega))
        have c341 : V332.cell? ⟨w.heap.size, 3, none⟩ = some (.slice none 0 0) := by rw [hV]; first | ((repeat' (first | with_reducible exact c244 | with_reducible refine cellK_drew ?_ | with_reducible refine cellK_alloc ?_ | with_reducible refine cellK_set ?_ (by dsimp only; omega))); done) | (first | (simp [go_sem, ↓IntWalk.iteOmega, *]; done) | (simp [go_sem, ↓IntWalk.iteOmega, *]; intros; omega))
        have c342 : V332.cell? ⟨w.heap.size, 4, none⟩ = some (.slice none 0 0) := by rw [hV]; first | ((repeat' (first | with_reducible exact c245 | with_reducible refine cellK_drew ?_ | with_reducible refine cellK_alloc ?_ | with_reducible refine cellK_set ?_ (by dsimp only; omega))); done) | (first | (simp [go_sem, ↓IntWalk.iteOmega, *]; done) | (simp [go_sem, ↓IntWalk.iteOmega, *]; intros; omega))
        have z343 : ∀ o, V332.frozen? ⟨w.heap.size, o, none⟩ = false := by rw [hV]; first | ((repeat' (first | with_reducible exact z246 | with_reducible refine frozK_drew ?_ | with_reducible refine frozK_alloc ?_ | with_reducible refine frozK_set ?_)); done) | (intro o; first | (simp [go_sem, ↓IntWalk.iteOmega, *]; done) | (simp [go_sem, ↓IntWalk.iteOmega, *]; intros; omega))
        have z344 : ∀ o, V332.frozen? ⟨tb, o, none⟩ = false := by rw [hV]; first | ((repeat' (first | with_reducible exact z247 | with_reducible refine frozK_drew ?_ | with_reducible refine frozK_alloc ?_ | with_reducible refine frozK_set ?_)); done) | (intro o; first | (simp [go_sem, ↓IntWalk.iteOmega, *]; done) | (simp [go_sem, ↓IntWalk.iteOmega, *]; intros; omega))
        have R345 : Hid (FreshA cIn 1 3 (tb + 1) V332 ((some ⟨gf, 0, none⟩)) cp2 fs) := hid (by rw [hV]; (repeat' (first | with_reducible exact R248.out | with_reducible refine FreshA.set_at ?_ (by assumption) _ | with_reducible refine FreshA.set_low ?_ ?_ _ | with_reducible refine FreshA.below ?_ (Below.drew (Below.refl _ _)) | with_reducible refine FreshA.below ?_ (Below.alloc (Below.refl _ _) (Nat.le_refl _) _) | (dsimp only; omega) | (simp; done) | (simp; omega))))
        have R346 : Hid (FreshA cPu 3 71 (tb + 1) V332 A3 cp3 ps) := hid (by rw [hV]; (repeat' (first | with_reducible exact R249.out | with_reducible refine FreshA.set_at ?_ (by assumption) _ | with_reducible refine FreshA.set_low ?_ ?_ _ | with_reducible refine FreshA.below ?_ (Below.drew (Below.refl _ _)) | with_reducible refine FreshA.below ?_ (Below.alloc (Below.refl _ _) (Nat.le_refl _) _) | (dsimp only; omega) | (simp; done) | (simp; omega))))
        have cu347 : CurS V332 b A cs cap (m + 200 + 1) := by rw [hV]; (repeat' (first | with_reducible refine CurS.setc ?_ ?_ | with_reducible refine CurS.allo ?_ | with_reducible refine CurS.drw ?_ | with_reducible exact cu250 | (dsimp only; omega) | (simp; done) | (simp; omega)))
        have gw348 : w.grownBy V332 (some b) := by rw [hV]; (repeat' (first | with_reducible exact World.grownBy.refl _ _ | with_reducible exact gw251 | with_reducible refine grownA ?_ | with_reducible refine grownS ?_ ?_ | with_reducible refine grown_drew ?_ | (dsimp only; omega) | (simp; done) | omega))
        have hzgw348 := gw348.size
        have hlcu347 := cu347.lt
        clear c236 c237 c238 c239 c240 c241 c242 c243 c244 c245 z246 z247 R248 R249 cu250 gw251
        clear hV
        refine wp_region_c (n := 5) b (fun k w' => CurS w' b A cs cap (m + 200 + 1 + k)) [] (FSc b tb (some ⟨gf, 0, none⟩) fs.length cp2) rfl (by kernel_rfl) (fun _ _ d _ _ h => by cases d <;> exact h) (CurS.mono (CurS.drw cu347) (by omega)) ?_ (fun i hi => absurd hi (by simp)) ?_ ?_
        · intro iq v w1 w2 hF hg
          match iq with
          | 0 => exact hF
          | 1 => exact hF
          | 2 => exact hF
          | 3 => exact hF.keep hg
          | 4 => exact hF
          | q + 5 => exact (show True from trivial)
        · intro iq o hi ho vals k w1 hk hT hgW hf
          match iq, hi with
          | 0, _ =>
            injection ho with ho
            subst ho
            clear hf
            have hz1 := hgW.size
            have hlt1 := CurS.lt hT
            simp only [fillA, List.take, List.drop, put_none, Act.put, List.setIfInBounds_toArray, List.set_cons_zero, List.set_cons_succ, Nat.reduceAdd]
            go_wp2_with (fail)
            exact ⟨rfl, rfl, World.grownBy.refl _ _, CurS.mono hT (by omega), (by first | rfl | (simp [FSc]; done) | (simp [FSc, *]; done) | (simp [FSc, gotV]; done) | (simp [FSc, gotV, *]; done)), fun h => absurd h (by decide)⟩
          | 1, _ =>
            injection ho with ho
            subst ho
            have e0 : vals 0 = .pointer (some ⟨tb, 3, none⟩) := hf 0 (by decide) (by kernel_rfl)
            clear hf
            have hz1 := hgW.size
            have hlt1 := CurS.lt hT
            simp only [fillA, List.take, List.drop, put_none, Act.put, List.setIfInBounds_toArray, List.set_cons_zero, List.set_cons_succ, Nat.reduceAdd, e0]
            have k0 : w1.cell? ⟨tb, 0, none⟩ = some (.int .i64 dx10) := (cellRow hgW (tb) 0).trans (by rw [if_pos ⟨by omega, by omega⟩]; exact c333)
            have k1 : w1.cell? ⟨tb, 1, none⟩ = some (.int .i64 dx48) := (cellRow hgW (tb) 1).trans (by rw [if_pos ⟨by omega, by omega⟩]; exact c334)
            have k2 : w1.cell? ⟨tb, 2, none⟩ = some (.int .i64 dx29) := (cellRow hgW (tb) 2).trans (by rw [if_pos ⟨by omega, by omega⟩]; exact c335)
            have k3 : w1.cell? ⟨tb, 3, none⟩ = some (.slice (some ⟨gf, 0, none⟩) fs.length cp2) := (cellRow hgW (tb) 3).trans (by rw [if_pos ⟨by omega, by omega⟩]; exact c336)
            have k4 : w1.cell? ⟨tb, 4, none⟩ = some (.slice A3 ps.length cp3) := (cellRow hgW (tb) 4).trans (by rw [if_pos ⟨by omega, by omega⟩]; exact c337)
            go_wp2_with (fail)
            exact ⟨rfl, rfl, World.grownBy.refl _ _, CurS.mono hT (by omega), (by first | rfl | (simp [FSc]; done) | (simp [FSc, *]; done) | (simp [FSc, gotV]; done) | (simp [FSc, gotV, *]; done)), fun h => absurd h (by decide)⟩
          | 2, _ =>
            injection ho with ho
            subst ho
            clear hf
            have hz1 := hgW.size
            have hlt1 := CurS.lt hT
            simp only [fillA, List.take, List.drop, put_none, Act.put, List.setIfInBounds_toArray, List.set_cons_zero, List.set_cons_succ, Nat.reduceAdd]
            go_wp2_with (fail)
            exact ⟨rfl, rfl, World.grownBy.refl _ _, CurS.mono hT (by omega), (by first | rfl | (simp [FSc]; done) | (simp [FSc, *]; done) | (simp [FSc, gotV]; done) | (simp [FSc, gotV, *]; done)), fun h => absurd h (by decide)⟩
          | 3, _ =>
            injection ho with ho
            subst ho
            clear hf
            have hz1 := hgW.size
            have hlt1 := CurS.lt hT
            simp only [fillA, List.take, List.drop, put_none, Act.put, List.setIfInBounds_toArray, List.set_cons_zero, List.set_cons_succ, Nat.reduceAdd]
            go_wp2_with (fail)
            exact ⟨rfl, rfl, grownA (World.grownBy.refl _ _), CurS.mono (CurS.allo hT) (by omega), ⟨_, rfl, by omega, heap_alloc_new _ _⟩, fun h => absurd h (by decide)⟩
          | 4, _ =>
            injection ho with ho
            subst ho
            have e2 : vals 2 = .pointer (some ⟨b, 0, none⟩) := hf 2 (by decide) (by kernel_rfl)
            obtain ⟨g3, e3, hB3, hh3⟩ := hf 3 (by decide) (by kernel_rfl)
            clear hf
            have hz1 := hgW.size
            have hlt1 := CurS.lt hT
            simp only [fillA, List.take, List.drop, put_none, Act.put, List.setIfInBounds_toArray, List.set_cons_zero, List.set_cons_succ, Nat.reduceAdd, e2, e3]
            go_wp2_with (go_at_call 82; refine (c_among b A cs cap (m + 200 + 1 + k) _ ([51, -51] : List Int) _ (-51) (51) _ hT hby (by omega) hl (Rds.of_block hh3 (by intro i x h; rcases i with _ | _ | i <;> simp at h ⊢ <;> first | exact h | omega)) (by simp) (by intro a ha; cases ha; simp; omega) (fun k hk => (show ∀ x ∈ ([51, -51] : List Int), -51 ≤ x ∧ x ≤ 51 by intro x hx; simp at hx; omega) _ (List.getElem_mem hk))).mono ?_; rintro e w9 ⟨x9, rfl, hx9a, hx9b, hcu9, hg9⟩)
            exact RQO_of (.int .i64 x9) rfl (by first | rfl | (simp [gotV]; done) | (simp [gotV, *]; done)) ⟨hg9, CurS.mono hcu9 (by omega), ⟨x9, rfl, hx9a, hx9b⟩, fun h => absurd h (by decide)⟩
          | q + 5, h => exact absurd h (by omega)
        · intro vals W5 hT hgW hf hd
          have e0 : vals 0 = .pointer (some ⟨tb, 3, none⟩) := hf 0 (by decide)
          have e1 : vals 1 = .slice (some ⟨gf, 0, none⟩) fs.length cp2 := hf 1 (by decide)
          have e2 : vals 2 = .pointer (some ⟨b, 0, none⟩) := hf 2 (by decide)
          obtain ⟨g3, e3, hB3, hh3⟩ := hf 3 (by decide)
          obtain ⟨x4, e4, hxa4, hxb4⟩ := hf 4 (by decide)
          clear hf hd
          simp only [fillA, List.take, List.drop, put_none, Act.put, List.setIfInBounds_toArray, List.set_cons_zero, List.set_cons_succ, Nat.reduceAdd, e0, e1, e2, e3, e4]
          have hkW5 := hgW.size
          have c349 : W5.cell? ⟨tb, 0, none⟩ = some (.int .i64 dx10) := (cellRow hgW (tb) 0).trans (by rw [if_pos ⟨by omega, by omega⟩]; exact c333)
          have c350 : W5.cell? ⟨tb, 1, none⟩ = some (.int .i64 dx48) := (cellRow hgW (tb) 1).trans (by rw [if_pos ⟨by omega, by omega⟩]; exact c334)
          have c351 : W5.cell? ⟨tb, 2, none⟩ = some (.int .i64 dx29) := (cellRow hgW (tb) 2).trans (by rw [if_pos ⟨by omega, by omega⟩]; exact c335)
          have c352 : W5.cell? ⟨tb, 3, none⟩ = some (.slice (some ⟨gf, 0, none⟩) fs.length cp2) := (cellRow hgW (tb) 3).trans (by rw [if_pos ⟨by omega, by omega⟩]; exact c336)
          have c353 : W5.cell? ⟨tb, 4, none⟩ = some (.slice A3 ps.length cp3) := (cellRow hgW (tb) 4).trans (by rw [if_pos ⟨by omega, by omega⟩]; exact c337)
          have c354 : W5.cell? ⟨w.heap.size, 0, none⟩ = some (.int .i64 0) := (cellRow hgW (w.heap.size) 0).trans (by rw [if_pos ⟨by omega, by omega⟩]; exact c338)
          have c355 : W5.cell? ⟨w.heap.size, 1, none⟩ = some (.int .i64 0) := (cellRow hgW (w.heap.size) 1).trans (by rw [if_pos ⟨by omega, by omega⟩]; exact c339)
          have c356 : W5.cell? ⟨w.heap.size, 2, none⟩ = some (.int .i64 0) := (cellRow hgW (w.heap.size) 2).trans (by rw [if_pos ⟨by omega, by omega⟩]; exact c340)
          have c357 : W5.cell? ⟨w.heap.size, 3, none⟩ = some (.slice none 0 0) := (cellRow hgW (w.heap.size) 3).trans (by rw [if_pos ⟨by omega, by omega⟩]; exact c341)
          have c358 : W5.cell? ⟨w.heap.size, 4, none⟩ = some (.slice none 0 0) := (cellRow hgW (w.heap.size) 4).trans (by rw [if_pos ⟨by omega, by omega⟩]; exact c342)
          have z359 : ∀ o, W5.frozen? ⟨w.heap.size, o, none⟩ = false := fun o => (frozRow hgW (w.heap.size) o).trans (by rw [if_pos ⟨by omega, by omega⟩]; exact z343 o)
          have z360 : ∀ o, W5.frozen? ⟨tb, o, none⟩ = false := fun o => (frozRow hgW (tb) o).trans (by rw [if_pos ⟨by omega, by omega⟩]; exact z344 o)
          have R361 : Hid (FreshA cIn 1 3 (tb + 1) W5 ((some ⟨gf, 0, none⟩)) cp2 fs) := hid (FreshA.rowb R345.out hgW (by omega))
          have R362 : Hid (FreshA cPu 3 71 (tb + 1) W5 A3 cp3 ps) := hid (FreshA.rowb R346.out hgW (by omega))
          have cu363 : CurS W5 b A cs cap (m + 200 + 1 + 5) := hT
          have gw364 : w.grownBy W5 (some b) := grown_trans gw348 hgW
          have hzgw364 := gw364.size
          have hlcu363 := cu363.lt
          clear c333 c334 c335 c336 c337 c338 c339 c340 c341 c342 z343 z344 R345 R346 cu347 gw348
          clear hgW
          obtain ⟨gf', hge, hBf', hOf⟩ := FreshA.row R361.out (by omega)
          cases hge
          obtain ⟨u0, hu0⟩ := hOf.cell 0 (by have := FreshA.capLe R361.out; omega)
          have hz0 := hOf.frozen 0
          have hapq : ∀ a, A3 = some a → a.block ≠ (⟨gf, 0, none⟩ : Addr).block := fun a ha e => FreshA.apart R362.out R361.out (by decide) a ha (by rw [e]; rfl)
          have hneg : gf ≠ w.heap.size := by omega
          have hneg2 : gf ≠ tb := by omega
          have HOF := hid hOf
          clear hOf
          go_wp2_with (fail)
          refine post_named ?_
          intro V365 hV
          have hkV365 : W5.heap.size ≤ V365.heap.size := by rw [hV]; first | with_reducible exact Nat.le_refl _ | (simp [World.setCell]; done) | (simp; omega)
          have R366 : Hid (FreshA cPu 3 71 (tb + 1) V365 A3 cp3 ps) := hid (by rw [hV]; (repeat' (first | with_reducible exact R362.out | with_reducible refine FreshA.set_at ?_ (by assumption) _ | with_reducible refine FreshA.set_low ?_ ?_ _ | with_reducible refine FreshA.below ?_ (Below.drew (Below.refl _ _)) | with_reducible refine FreshA.below ?_ (Below.alloc (Below.refl _ _) (Nat.le_refl _) _) | (dsimp only; omega) | (simp; done) | (simp; omega))))
          have cu367 : CurS V365 b A cs cap (m + 200 + 1 + 5) := by rw [hV]; (repeat' (first | with_reducible refine CurS.setc ?_ ?_ | with_reducible refine CurS.allo ?_ | with_reducible refine CurS.drw ?_ | with_reducible exact cu363 | (dsimp only; omega) | (simp; done) | (simp; omega)))
          have gw368 : w.grownBy V365 (some b) := by rw [hV]; (repeat' (first | with_reducible exact World.grownBy.refl _ _ | with_reducible exact gw364 | with_reducible refine grownA ?_ | with_reducible refine grownS ?_ ?_ | with_reducible refine grown_drew ?_ | (dsimp only; omega) | (simp; done) | omega))
          have hzgw368 := gw368.size
          have hlcu367 := cu367.lt
          clear R362 cu363 gw364
          have r0 : V365.cell? ⟨w.heap.size, 0, none⟩ = some (.int .i64 dx10) := by rw [hV]; first | (simp [go_sem, ↓IntWalk.iteOmega, *]; done) | (simp [go_sem, ↓IntWalk.iteOmega, *]; intros; omega)
          have r1 : V365.cell? ⟨w.heap.size, 1, none⟩ = some (.int .i64 dx48) := by rw [hV]; first | (simp [go_sem, ↓IntWalk.iteOmega, *]; done) | (simp [go_sem, ↓IntWalk.iteOmega, *]; intros; omega)
          have r2 : V365.cell? ⟨w.heap.size, 2, none⟩ = some (.int .i64 dx29) := by rw [hV]; first | (simp [go_sem, ↓IntWalk.iteOmega, *]; done) | (simp [go_sem, ↓IntWalk.iteOmega, *]; intros; omega)
          have r3 : V365.cell? ⟨w.heap.size, 3, none⟩ = some (.slice ((some ⟨gf, 0, none⟩)) ((fs.set 0 x4)).length cp2) := by rw [hV]; first | (simp [go_sem, ↓IntWalk.iteOmega, *]; done) | (simp [go_sem, ↓IntWalk.iteOmega, *]; intros; omega)
          have r4 : V365.cell? ⟨w.heap.size, 4, none⟩ = some (.slice A3 ps.length cp3) := by rw [hV]; first | (simp [go_sem, ↓IntWalk.iteOmega, *]; done) | (simp [go_sem, ↓IntWalk.iteOmega, *]; intros; omega)
          have RFN := hid (show FreshA cIn 1 3 (tb + 1) V365 ((some ⟨gf, 0, none⟩)) cp2 ((fs.set 0 x4)) by rw [hV]; refine FreshA.of_own1 ?_ (by omega); repeat' (first | with_reducible exact (OwnS.put1 (y := x4) (k := 0) (j := 0) cIn_len HOF.out (by omega) (by omega) rfl) | with_reducible refine OwnS.set_far ?_ ?_ _ | (dsimp only; omega) | (simp; done)))
          clear hV
          refine bodyPost_ret (v := .agg #[.int .i64 dx10, .int .i64 dx48, .int .i64 dx29, .slice ((some ⟨gf, 0, none⟩)) ((fs.set 0 x4)).length cp2, .slice A3 ps.length cp3]) ?_ rfl ⟨dx10, dx48, dx29, ((some ⟨gf, 0, none⟩)), cp2, ((fs.set 0 x4)), A3, cp3, ps, rfl, FreshA.mono RFN.out (by omega), FreshA.mono R366.out (by omega), by first | omega | (simp; omega) | simp, by first | omega | (simp; omega), CurS.mono cu367 (by omega), gw368⟩
          simp [results, Try.results69, go_sem, r0, r1, r2, r3, r4]
      by_cases hq : dx234 = 3
      · subst hq
        go_wp2_with (at_builtin; refine wlist_named ?_)
        intro V369 hV
        have hkV369 : W235.heap.size ≤ V369.heap.size := by rw [hV]; first | with_reducible exact Nat.le_refl _ | (simp [World.setCell]; done) | (simp; omega)
        have c370 : V369.cell? ⟨tb, 0, none⟩ = some (.int .i64 dx10) := by rw [hV]; first | ((repeat' (first | with_reducible exact c236 | with_reducible refine cellK_drew ?_ | with_reducible refine cellK_alloc ?_ | with_reducible refine cellK_set ?_ (by dsimp only; omega))); done) | (first | (simp [go_sem, ↓IntWalk.iteOmega, *]; done) | (simp [go_sem, ↓IntWalk.iteOmega, *]; intros; omega))
        have c371 : V369.cell? ⟨tb, 1, none⟩ = some (.int .i64 dx48) := by rw [hV]; first | ((repeat' (first | with_reducible exact c237 | with_reducible refine cellK_drew ?_ | with_reducible refine cellK_alloc ?_ | with_reducible refine cellK_set ?_ (by dsimp only; omega))); done) | (first | (simp [go_sem, ↓IntWalk.iteOmega, *]; done) | (simp [go_sem, ↓IntWalk.iteOmega, *]; intros; omega))
        have c372 : V369.cell? ⟨tb, 2, none⟩ = some (.int .i64 dx29) := by rw [hV]; first | ((repeat' (first | with_reducible exact c238 | with_reducible refine cellK_drew ?_ | with_reducible refine cellK_alloc ?_ | with_reducible refine cellK_set ?_ (by dsimp only; omega))); done) | (first | (simp [go_sem, ↓IntWalk.iteOmega, *]; done) | (simp [go_sem, ↓IntWalk.iteOmega, *]; intros; omega))
        have c373 : V369.cell? ⟨tb, 3, none⟩ = some (.slice A2 fs.length cp2) := by rw [hV]; first | ((repeat' (first | with_reducible exact c239 | with_reducible refine cellK_drew ?_ | with_reducible refine cellK_alloc ?_ | with_reducible refine cellK_set ?_ (by dsimp only; omega))); done) | (first | (simp [go_sem, ↓IntWalk.iteOmega, *]; done) | (simp [go_sem, ↓IntWalk.iteOmega, *]; intros; omega))
        have c374 : V369.cell? ⟨tb, 4, none⟩ = some (.slice A3 ps.length cp3) := by rw [hV]; first | ((repeat' (first | with_reducible exact c240 | with_reducible refine cellK_drew ?_ | with_reducible refine cellK_alloc ?_ | with_reducible refine cellK_set ?_ (by dsimp only; omega))); done) | (first | (simp [go_sem, ↓IntWalk.iteOmega, *]; done) | (simp [go_sem, ↓IntWalk.iteOmega, *]; intros; omega))
        have c375 : V369.cell? ⟨w.heap.size, 0, none⟩ = some (.int .i64 0) := by rw [hV]; first | ((repeat' (first | with_reducible exact c241 | with_reducible refine cellK_drew ?_ | with_reducible refine cellK_alloc ?_ | with_reducible refine cellK_set ?_ (by dsimp only; omega))); done) | (first | (simp [go_sem, ↓IntWalk.iteOmega, *]; done) | (simp [go_sem, ↓IntWalk.iteOmega, *]; intros; omega))
        have c376 : V369.cell? ⟨w.heap.size, 1, none⟩ = some (.int .i64 0) := by rw [hV]; first | ((repeat' (first | with_reducible exact c242 | with_reducible refine cellK_drew ?_ | with_reducible refine cellK_alloc ?_ | with_reducible refine cellK_set ?_ (by dsimp only; omega))); done) | (first | (simp [go_sem, ↓IntWalk.iteOmega, *]; done) | (simp [go_sem, ↓IntWalk.iteOmega, *]; intros; omega))
        have c377 : V369.cell? ⟨w.heap.size, 2, none⟩ = some (.int .i64 0) := by rw [hV]; first | ((repeat' (first | with_reducible exact c243 | with_reducible refine cellK_drew ?_ | with_reducible refine cellK_alloc ?_ | with_reducible refine cellK_set ?_ (by dsimp only; omega))); done) | (first | (simp [go_sem, ↓IntWalk.iteOmega, *]; done) | (simp [go_sem, ↓IntWalk.iteOmega, *]; intros; omega))
        have c378 : V369.cell? ⟨w.heap.size, 3, none⟩ = some (.slice none 0 0) := by rw [hV]; first | ((repeat' (first | with_reducible exact c244 | with_reducible refine cellK_drew ?_ | with_reducible refine cellK_alloc ?_ | with_reducible refine cellK_set ?_ (by dsimp only; omega))); done) | (first | (simp [go_sem, ↓IntWalk.iteOmega, *]; done) | (simp [go_sem, ↓IntWalk.iteOmega, *]; intros; omega))
        have c379 : V369.cell? ⟨w.heap.size, 4, none⟩ = some (.slice none 0 0) := by rw [hV]; first | ((repeat' (first | with_reducible exact c245 | with_reducible refine cellK_drew ?_ | with_reducible refine cellK_alloc ?_ | with_reducible refine cellK_set ?_ (by dsimp only; omega))); done) | (first | (simp [go_sem, ↓IntWalk.iteOmega, *]; done) | (simp [go_sem, ↓IntWalk.iteOmega, *]; intros; omega))
        have z380 : ∀ o, V369.frozen? ⟨w.heap.size, o, none⟩ = false := by rw [hV]; first | ((repeat' (first | with_reducible exact z246 | with_reducible refine frozK_drew ?_ | with_reducible refine frozK_alloc ?_ | with_reducible refine frozK_set ?_)); done) | (intro o; first | (simp [go_sem, ↓IntWalk.iteOmega, *]; done) | (simp [go_sem, ↓IntWalk.iteOmega, *]; intros; omega))
        have z381 : ∀ o, V369.frozen? ⟨tb, o, none⟩ = false := by rw [hV]; first | ((repeat' (first | with_reducible exact z247 | with_reducible refine frozK_drew ?_ | with_reducible refine frozK_alloc ?_ | with_reducible refine frozK_set ?_)); done) | (intro o; first | (simp [go_sem, ↓IntWalk.iteOmega, *]; done) | (simp [go_sem, ↓IntWalk.iteOmega, *]; intros; omega))
        have R382 : Hid (FreshA cIn 1 3 (tb + 1) V369 A2 cp2 fs) := hid (by rw [hV]; (repeat' (first | with_reducible exact R248.out | with_reducible refine FreshA.set_at ?_ (by assumption) _ | with_reducible refine FreshA.set_low ?_ ?_ _ | with_reducible refine FreshA.below ?_ (Below.drew (Below.refl _ _)) | with_reducible refine FreshA.below ?_ (Below.alloc (Below.refl _ _) (Nat.le_refl _) _) | (dsimp only; omega) | (simp; done) | (simp; omega))))
        have R383 : Hid (FreshA cPu 3 71 (tb + 1) V369 A3 cp3 ps) := hid (by rw [hV]; (repeat' (first | with_reducible exact R249.out | with_reducible refine FreshA.set_at ?_ (by assumption) _ | with_reducible refine FreshA.set_low ?_ ?_ _ | with_reducible refine FreshA.below ?_ (Below.drew (Below.refl _ _)) | with_reducible refine FreshA.below ?_ (Below.alloc (Below.refl _ _) (Nat.le_refl _) _) | (dsimp only; omega) | (simp; done) | (simp; omega))))
        have cu384 : CurS V369 b A cs cap (m + 200 + 1) := by rw [hV]; (repeat' (first | with_reducible refine CurS.setc ?_ ?_ | with_reducible refine CurS.allo ?_ | with_reducible refine CurS.drw ?_ | with_reducible exact cu250 | (dsimp only; omega) | (simp; done) | (simp; omega)))
        have gw385 : w.grownBy V369 (some b) := by rw [hV]; (repeat' (first | with_reducible exact World.grownBy.refl _ _ | with_reducible exact gw251 | with_reducible refine grownA ?_ | with_reducible refine grownS ?_ ?_ | with_reducible refine grown_drew ?_ | (dsimp only; omega) | (simp; done) | omega))
        have hzgw385 := gw385.size
        have hlcu384 := cu384.lt
        clear c236 c237 c238 c239 c240 c241 c242 c243 c244 c245 z246 z247 R248 R249 cu250 gw251
        refine wpList_pushesR (xs := fs) rfl (.tmp 77) (.tmp 78) 22 rfl 3 i0 _ 8 Try.underlying22 hI0 hI1 hI2 hI3 rfl (by decide) (fun _ => rfl) one_In _ rfl rfl R382.out [0, 0, 0, 0, 0] 5 rfl _ _ rfl (by rw [hV]; exact Rds.of_lit (by simp) (by intro i x h; rcases i with _ | _ | _ | _ | _ | i <;> simp at h ⊢ <;> first | exact h | omega)) (by unfold maxLen; omega) (by first | omega | (simp; omega)) (by omega) ?_
        intro A5 cp5 W5 hF3 hg3 hat3
        clear hV
        have hkW5 := hg3.size
        have hlo := R382.out.lo
        have c386 : W5.cell? ⟨tb, 0, none⟩ = some (.int .i64 dx10) := (World.cell?_of_block (a := ⟨tb, 0, none⟩) (hg3.block (tb) (by omega) (ne_blk hlo (by omega)))).trans c370
        have c387 : W5.cell? ⟨tb, 1, none⟩ = some (.int .i64 dx48) := (World.cell?_of_block (a := ⟨tb, 1, none⟩) (hg3.block (tb) (by omega) (ne_blk hlo (by omega)))).trans c371
        have c388 : W5.cell? ⟨tb, 2, none⟩ = some (.int .i64 dx29) := (World.cell?_of_block (a := ⟨tb, 2, none⟩) (hg3.block (tb) (by omega) (ne_blk hlo (by omega)))).trans c372
        have c389 : W5.cell? ⟨tb, 3, none⟩ = some (.slice A2 fs.length cp2) := (World.cell?_of_block (a := ⟨tb, 3, none⟩) (hg3.block (tb) (by omega) (ne_blk hlo (by omega)))).trans c373
        have c390 : W5.cell? ⟨tb, 4, none⟩ = some (.slice A3 ps.length cp3) := (World.cell?_of_block (a := ⟨tb, 4, none⟩) (hg3.block (tb) (by omega) (ne_blk hlo (by omega)))).trans c374
        have c391 : W5.cell? ⟨w.heap.size, 0, none⟩ = some (.int .i64 0) := (World.cell?_of_block (a := ⟨w.heap.size, 0, none⟩) (hg3.block (w.heap.size) (by omega) (ne_blk hlo (by omega)))).trans c375
        have c392 : W5.cell? ⟨w.heap.size, 1, none⟩ = some (.int .i64 0) := (World.cell?_of_block (a := ⟨w.heap.size, 1, none⟩) (hg3.block (w.heap.size) (by omega) (ne_blk hlo (by omega)))).trans c376
        have c393 : W5.cell? ⟨w.heap.size, 2, none⟩ = some (.int .i64 0) := (World.cell?_of_block (a := ⟨w.heap.size, 2, none⟩) (hg3.block (w.heap.size) (by omega) (ne_blk hlo (by omega)))).trans c377
        have c394 : W5.cell? ⟨w.heap.size, 3, none⟩ = some (.slice none 0 0) := (World.cell?_of_block (a := ⟨w.heap.size, 3, none⟩) (hg3.block (w.heap.size) (by omega) (ne_blk hlo (by omega)))).trans c378
        have c395 : W5.cell? ⟨w.heap.size, 4, none⟩ = some (.slice none 0 0) := (World.cell?_of_block (a := ⟨w.heap.size, 4, none⟩) (hg3.block (w.heap.size) (by omega) (ne_blk hlo (by omega)))).trans c379
        have z396 : ∀ o, W5.frozen? ⟨w.heap.size, o, none⟩ = false := fun o => (World.frozen?_of_block (a := ⟨w.heap.size, o, none⟩) (hg3.block (w.heap.size) (by omega) (ne_blk hlo (by omega)))).trans (z380 o)
        have z397 : ∀ o, W5.frozen? ⟨tb, o, none⟩ = false := fun o => (World.frozen?_of_block (a := ⟨tb, o, none⟩) (hg3.block (tb) (by omega) (ne_blk hlo (by omega)))).trans (z381 o)
        have R398 : Hid (FreshA cIn 1 3 (tb + 1) W5 A5 cp5 (fs ++ [0, 0, 0, 0, 0])) := hid (hF3)
        have R399 : Hid (FreshA cPu 3 71 (tb + 1) W5 A3 cp3 ps) := hid (FreshA.grown R383.out hg3 (FreshA.apart R383.out R382.out (by decide)))
        have cu400 : CurS W5 b A cs cap (m + 200 + 1) := CurS.other cu384 hg3 hlo (by omega)
        have gw401 : w.grownBy W5 (some b) := grown_other gw385 hg3 (hlo.mono (by omega))
        have hzgw401 := gw401.size
        have hlcu400 := cu400.lt
        clear c370 c371 c372 c373 c374 c375 c376 c377 c378 c379 z380 z381 R382 R383 cu384 gw385
        clear hlo
        clear hF3 hg3 hat3
        have hl5 : (fs ++ [0, 0, 0, 0, 0]).length = fs.length + 5 := by simp
        go_wp2_with (fail)
        refine post_named ?_
        intro V402 hV
        have hkV402 : W5.heap.size ≤ V402.heap.size := by rw [hV]; first | with_reducible exact Nat.le_refl _ | (simp [World.setCell]; done) | (simp; omega)
        have R403 : Hid (FreshA cIn 1 3 (tb + 1) V402 A5 cp5 (fs ++ [0, 0, 0, 0, 0])) := hid (by rw [hV]; (repeat' (first | with_reducible exact R398.out | with_reducible refine FreshA.set_at ?_ (by assumption) _ | with_reducible refine FreshA.set_low ?_ ?_ _ | with_reducible refine FreshA.below ?_ (Below.drew (Below.refl _ _)) | with_reducible refine FreshA.below ?_ (Below.alloc (Below.refl _ _) (Nat.le_refl _) _) | (dsimp only; omega) | (simp; done) | (simp; omega))))
        have R404 : Hid (FreshA cPu 3 71 (tb + 1) V402 A3 cp3 ps) := hid (by rw [hV]; (repeat' (first | with_reducible exact R399.out | with_reducible refine FreshA.set_at ?_ (by assumption) _ | with_reducible refine FreshA.set_low ?_ ?_ _ | with_reducible refine FreshA.below ?_ (Below.drew (Below.refl _ _)) | with_reducible refine FreshA.below ?_ (Below.alloc (Below.refl _ _) (Nat.le_refl _) _) | (dsimp only; omega) | (simp; done) | (simp; omega))))
        have cu405 : CurS V402 b A cs cap (m + 200 + 1) := by rw [hV]; (repeat' (first | with_reducible refine CurS.setc ?_ ?_ | with_reducible refine CurS.allo ?_ | with_reducible refine CurS.drw ?_ | with_reducible exact cu400 | (dsimp only; omega) | (simp; done) | (simp; omega)))
        have gw406 : w.grownBy V402 (some b) := by rw [hV]; (repeat' (first | with_reducible exact World.grownBy.refl _ _ | with_reducible exact gw401 | with_reducible refine grownA ?_ | with_reducible refine grownS ?_ ?_ | with_reducible refine grown_drew ?_ | (dsimp only; omega) | (simp; done) | omega))
        have hzgw406 := gw406.size
        have hlcu405 := cu405.lt
        clear R398 R399 cu400 gw401
        have r0 : V402.cell? ⟨w.heap.size, 0, none⟩ = some (.int .i64 dx10) := by rw [hV]; first | (simp [go_sem, ↓IntWalk.iteOmega, *]; done) | (simp [go_sem, ↓IntWalk.iteOmega, *]; intros; omega)
        have r1 : V402.cell? ⟨w.heap.size, 1, none⟩ = some (.int .i64 dx48) := by rw [hV]; first | (simp [go_sem, ↓IntWalk.iteOmega, *]; done) | (simp [go_sem, ↓IntWalk.iteOmega, *]; intros; omega)
        have r2 : V402.cell? ⟨w.heap.size, 2, none⟩ = some (.int .i64 dx29) := by rw [hV]; first | (simp [go_sem, ↓IntWalk.iteOmega, *]; done) | (simp [go_sem, ↓IntWalk.iteOmega, *]; intros; omega)
        have r3 : V402.cell? ⟨w.heap.size, 3, none⟩ = some (.slice A5 ((fs ++ [0, 0, 0, 0, 0])).length cp5) := by rw [hV]; first | (simp [go_sem, ↓IntWalk.iteOmega, *]; done) | (simp [go_sem, ↓IntWalk.iteOmega, *]; intros; omega)
        have r4 : V402.cell? ⟨w.heap.size, 4, none⟩ = some (.slice A3 ps.length cp3) := by rw [hV]; first | (simp [go_sem, ↓IntWalk.iteOmega, *]; done) | (simp [go_sem, ↓IntWalk.iteOmega, *]; intros; omega)
        clear hV
        refine bodyPost_ret (v := .agg #[.int .i64 dx10, .int .i64 dx48, .int .i64 dx29, .slice A5 ((fs ++ [0, 0, 0, 0, 0])).length cp5, .slice A3 ps.length cp3]) ?_ rfl ⟨dx10, dx48, dx29, A5, cp5, ((fs ++ [0, 0, 0, 0, 0])), A3, cp3, ps, rfl, FreshA.mono R403.out (by omega), FreshA.mono R404.out (by omega), by first | omega | (simp; omega) | simp, by first | omega | (simp; omega), CurS.mono cu405 (by omega), gw406⟩
        simp [results, Try.results69, go_sem, r0, r1, r2, r3, r4]
      by_cases hq : dx234 = 4
      · subst hq
        go_wp2_with (fail)
        refine wp_named ?_
        intro V407 hV
        have hkV407 : W235.heap.size ≤ V407.heap.size := by rw [hV]; first | with_reducible exact Nat.le_refl _ | (simp [World.setCell]; done) | (simp; omega)
        have c408 : V407.cell? ⟨tb, 0, none⟩ = some (.int .i64 dx10) := by rw [hV]; first | ((repeat' (first | with_reducible exact c236 | with_reducible refine cellK_drew ?_ | with_reducible refine cellK_alloc ?_ | with_reducible refine cellK_set ?_ (by dsimp only; omega))); done) | (first | (simp [go_sem, ↓IntWalk.iteOmega, *]; done) | (simp [go_sem, ↓IntWalk.iteOmega, *]; intros; omega))
        have c409 : V407.cell? ⟨tb, 1, none⟩ = some (.int .i64 dx48) := by rw [hV]; first | ((repeat' (first | with_reducible exact c237 | with_reducible refine cellK_drew ?_ | with_reducible refine cellK_alloc ?_ | with_reducible refine cellK_set ?_ (by dsimp only; omega))); done) | (first | (simp [go_sem, ↓IntWalk.iteOmega, *]; done) | (simp [go_sem, ↓IntWalk.iteOmega, *]; intros; omega))
        have c410 : V407.cell? ⟨tb, 2, none⟩ = some (.int .i64 dx29) := by rw [hV]; first | ((repeat' (first | with_reducible exact c238 | with_reducible refine cellK_drew ?_ | with_reducible refine cellK_alloc ?_ | with_reducible refine cellK_set ?_ (by dsimp only; omega))); done) | (first | (simp [go_sem, ↓IntWalk.iteOmega, *]; done) | (simp [go_sem, ↓IntWalk.iteOmega, *]; intros; omega))
        have c411 : V407.cell? ⟨tb, 3, none⟩ = some (.slice A2 fs.length cp2) := by rw [hV]; first | ((repeat' (first | with_reducible exact c239 | with_reducible refine cellK_drew ?_ | with_reducible refine cellK_alloc ?_ | with_reducible refine cellK_set ?_ (by dsimp only; omega))); done) | (first | (simp [go_sem, ↓IntWalk.iteOmega, *]; done) | (simp [go_sem, ↓IntWalk.iteOmega, *]; intros; omega))
        have c412 : V407.cell? ⟨tb, 4, none⟩ = some (.slice A3 ps.length cp3) := by rw [hV]; first | ((repeat' (first | with_reducible exact c240 | with_reducible refine cellK_drew ?_ | with_reducible refine cellK_alloc ?_ | with_reducible refine cellK_set ?_ (by dsimp only; omega))); done) | (first | (simp [go_sem, ↓IntWalk.iteOmega, *]; done) | (simp [go_sem, ↓IntWalk.iteOmega, *]; intros; omega))
        have c413 : V407.cell? ⟨w.heap.size, 0, none⟩ = some (.int .i64 0) := by rw [hV]; first | ((repeat' (first | with_reducible exact c241 | with_reducible refine cellK_drew ?_ | with_reducible refine cellK_alloc ?_ | with_reducible refine cellK_set ?_ (by dsimp only; omega))); done) | (first | (simp [go_sem, ↓IntWalk.iteOmega, *]; done) | (simp [go_sem, ↓IntWalk.iteOmega, *]; intros; omega))
        have c414 : V407.cell? ⟨w.heap.size, 1, none⟩ = some (.int .i64 0) := by rw [hV]; first | ((repeat' (first | with_reducible exact c242 | with_reducible refine cellK_drew ?_ | with_reducible refine cellK_alloc ?_ | with_reducible refine cellK_set ?_ (by dsimp only; omega))); done) | (first | (simp [go_sem, ↓IntWalk.iteOmega, *]; done) | (simp [go_sem, ↓IntWalk.iteOmega, *]; intros; omega))
        have c415 : V407.cell? ⟨w.heap.size, 2, none⟩ = some (.int .i64 0) := by rw [hV]; first | ((repeat' (first | with_reducible exact c243 | with_reducible refine cellK_drew ?_ | with_reducible refine cellK_alloc ?_ | with_reducible refine cellK_set ?_ (by dsimp only; omega))); done) | (first | (simp [go_sem, ↓IntWalk.iteOmega, *]; done) | (simp [go_sem, ↓IntWalk.iteOmega, *]; intros; omega))
        have c416 : V407.cell? ⟨w.heap.size, 3, none⟩ = some (.slice none 0 0) := by rw [hV]; first | ((repeat' (first | with_reducible exact c244 | with_reducible refine cellK_drew ?_ | with_reducible refine cellK_alloc ?_ | with_reducible refine cellK_set ?_ (by dsimp only; omega))); done) | (first | (simp [go_sem, ↓IntWalk.iteOmega, *]; done) | (simp [go_sem, ↓IntWalk.iteOmega, *]; intros; omega))
        have c417 : V407.cell? ⟨w.heap.size, 4, none⟩ = some (.slice none 0 0) := by rw [hV]; first | ((repeat' (first | with_reducible exact c245 | with_reducible refine cellK_drew ?_ | with_reducible refine cellK_alloc ?_ | with_reducible refine cellK_set ?_ (by dsimp only; omega))); done) | (first | (simp [go_sem, ↓IntWalk.iteOmega, *]; done) | (simp [go_sem, ↓IntWalk.iteOmega, *]; intros; omega))
        have z418 : ∀ o, V407.frozen? ⟨w.heap.size, o, none⟩ = false := by rw [hV]; first | ((repeat' (first | with_reducible exact z246 | with_reducible refine frozK_drew ?_ | with_reducible refine frozK_alloc ?_ | with_reducible refine frozK_set ?_)); done) | (intro o; first | (simp [go_sem, ↓IntWalk.iteOmega, *]; done) | (simp [go_sem, ↓IntWalk.iteOmega, *]; intros; omega))
        have z419 : ∀ o, V407.frozen? ⟨tb, o, none⟩ = false := by rw [hV]; first | ((repeat' (first | with_reducible exact z247 | with_reducible refine frozK_drew ?_ | with_reducible refine frozK_alloc ?_ | with_reducible refine frozK_set ?_)); done) | (intro o; first | (simp [go_sem, ↓IntWalk.iteOmega, *]; done) | (simp [go_sem, ↓IntWalk.iteOmega, *]; intros; omega))
        have R420 : Hid (FreshA cIn 1 3 (tb + 1) V407 A2 cp2 fs) := hid (by rw [hV]; (repeat' (first | with_reducible exact R248.out | with_reducible refine FreshA.set_at ?_ (by assumption) _ | with_reducible refine FreshA.set_low ?_ ?_ _ | with_reducible refine FreshA.below ?_ (Below.drew (Below.refl _ _)) | with_reducible refine FreshA.below ?_ (Below.alloc (Below.refl _ _) (Nat.le_refl _) _) | (dsimp only; omega) | (simp; done) | (simp; omega))))
        have R421 : Hid (FreshA cPu 3 71 (tb + 1) V407 A3 cp3 ps) := hid (by rw [hV]; (repeat' (first | with_reducible exact R249.out | with_reducible refine FreshA.set_at ?_ (by assumption) _ | with_reducible refine FreshA.set_low ?_ ?_ _ | with_reducible refine FreshA.below ?_ (Below.drew (Below.refl _ _)) | with_reducible refine FreshA.below ?_ (Below.alloc (Below.refl _ _) (Nat.le_refl _) _) | (dsimp only; omega) | (simp; done) | (simp; omega))))
        have cu422 : CurS V407 b A cs cap (m + 200 + 1) := by rw [hV]; (repeat' (first | with_reducible refine CurS.setc ?_ ?_ | with_reducible refine CurS.allo ?_ | with_reducible refine CurS.drw ?_ | with_reducible exact cu250 | (dsimp only; omega) | (simp; done) | (simp; omega)))
        have gw423 : w.grownBy V407 (some b) := by rw [hV]; (repeat' (first | with_reducible exact World.grownBy.refl _ _ | with_reducible exact gw251 | with_reducible refine grownA ?_ | with_reducible refine grownS ?_ ?_ | with_reducible refine grown_drew ?_ | (dsimp only; omega) | (simp; done) | omega))
        have hzgw423 := gw423.size
        have hlcu422 := cu422.lt
        clear c236 c237 c238 c239 c240 c241 c242 c243 c244 c245 z246 z247 R248 R249 cu250 gw251
        clear hV
        refine wp_region_c (n := 13) b (fun k w' => CurS w' b A cs cap (m + 200 + 1 + k)) [] (FSd b tb A3 ps.length cp3) rfl (by kernel_rfl) (fun _ _ d _ _ h => by cases d <;> exact h) (CurS.mono (CurS.drw cu422) (by omega)) ?_ (fun i hi => absurd hi (by simp)) ?_ ?_
        · intro iq v w1 w2 hF hg
          match iq with
          | 0 => exact hF
          | 1 => exact hF
          | 2 => exact hF
          | 3 => exact hF.keep hg
          | 4 => exact hF
          | 5 => exact hF
          | 6 => exact hF.keep hg
          | 7 => exact hF
          | 8 => exact hF
          | 9 => exact hF.keep hg
          | 10 => exact hF
          | 11 => exact hF
          | 12 => exact hF.keep hg
          | q + 13 => exact (show True from trivial)
        · intro iq o hi ho vals k w1 hk hT hgW hf
          match iq, hi with
          | 0, _ =>
            injection ho with ho
            subst ho
            clear hf
            have hz1 := hgW.size
            have hlt1 := CurS.lt hT
            simp only [fillA, List.take, List.drop, put_none, Act.put, List.setIfInBounds_toArray, List.set_cons_zero, List.set_cons_succ, Nat.reduceAdd]
            go_wp2_with (fail)
            exact ⟨rfl, rfl, World.grownBy.refl _ _, CurS.mono hT (by omega), (by first | rfl | (simp [FSd]; done) | (simp [FSd, *]; done) | (simp [FSd, gotV]; done) | (simp [FSd, gotV, *]; done)), fun h => absurd h (by decide)⟩
          | 1, _ =>
            injection ho with ho
            subst ho
            have e0 : vals 0 = .pointer (some ⟨tb, 4, none⟩) := hf 0 (by decide) (by kernel_rfl)
            clear hf
            have hz1 := hgW.size
            have hlt1 := CurS.lt hT
            simp only [fillA, List.take, List.drop, put_none, Act.put, List.setIfInBounds_toArray, List.set_cons_zero, List.set_cons_succ, Nat.reduceAdd, e0]
            have k0 : w1.cell? ⟨tb, 0, none⟩ = some (.int .i64 dx10) := (cellRow hgW (tb) 0).trans (by rw [if_pos ⟨by omega, by omega⟩]; exact c408)
            have k1 : w1.cell? ⟨tb, 1, none⟩ = some (.int .i64 dx48) := (cellRow hgW (tb) 1).trans (by rw [if_pos ⟨by omega, by omega⟩]; exact c409)
            have k2 : w1.cell? ⟨tb, 2, none⟩ = some (.int .i64 dx29) := (cellRow hgW (tb) 2).trans (by rw [if_pos ⟨by omega, by omega⟩]; exact c410)
            have k3 : w1.cell? ⟨tb, 3, none⟩ = some (.slice A2 fs.length cp2) := (cellRow hgW (tb) 3).trans (by rw [if_pos ⟨by omega, by omega⟩]; exact c411)
            have k4 : w1.cell? ⟨tb, 4, none⟩ = some (.slice A3 ps.length cp3) := (cellRow hgW (tb) 4).trans (by rw [if_pos ⟨by omega, by omega⟩]; exact c412)
            go_wp2_with (fail)
            exact ⟨rfl, rfl, World.grownBy.refl _ _, CurS.mono hT (by omega), (by first | rfl | (simp [FSd]; done) | (simp [FSd, *]; done) | (simp [FSd, gotV]; done) | (simp [FSd, gotV, *]; done)), fun h => absurd h (by decide)⟩
          | 2, _ =>
            injection ho with ho
            subst ho
            clear hf
            have hz1 := hgW.size
            have hlt1 := CurS.lt hT
            simp only [fillA, List.take, List.drop, put_none, Act.put, List.setIfInBounds_toArray, List.set_cons_zero, List.set_cons_succ, Nat.reduceAdd]
            go_wp2_with (fail)
            exact ⟨rfl, rfl, World.grownBy.refl _ _, CurS.mono hT (by omega), (by first | rfl | (simp [FSd]; done) | (simp [FSd, *]; done) | (simp [FSd, gotV]; done) | (simp [FSd, gotV, *]; done)), fun h => absurd h (by decide)⟩
          | 3, _ =>
            injection ho with ho
            subst ho
            clear hf
            have hz1 := hgW.size
            have hlt1 := CurS.lt hT
            simp only [fillA, List.take, List.drop, put_none, Act.put, List.setIfInBounds_toArray, List.set_cons_zero, List.set_cons_succ, Nat.reduceAdd]
            go_wp2_with (fail)
            exact ⟨rfl, rfl, grownA (World.grownBy.refl _ _), CurS.mono (CurS.allo hT) (by omega), ⟨_, rfl, by omega, heap_alloc_new _ _⟩, fun h => absurd h (by decide)⟩
          | 4, _ =>
            injection ho with ho
            subst ho
            have e2 : vals 2 = .pointer (some ⟨b, 0, none⟩) := hf 2 (by decide) (by kernel_rfl)
            obtain ⟨g3, e3, hB3, hh3⟩ := hf 3 (by decide) (by kernel_rfl)
            clear hf
            have hz1 := hgW.size
            have hlt1 := CurS.lt hT
            simp only [fillA, List.take, List.drop, put_none, Act.put, List.setIfInBounds_toArray, List.set_cons_zero, List.set_cons_succ, Nat.reduceAdd, e2, e3]
            go_wp2_with (go_at_call 82; refine (c_among b A cs cap (m + 200 + 1 + k) _ ([0, 1, 51] : List Int) _ (0) (51) _ hT hby (by omega) hl (Rds.of_block hh3 (by intro i x h; rcases i with _ | _ | _ | i <;> simp at h ⊢ <;> first | exact h | omega)) (by simp) (by intro a ha; cases ha; simp; omega) (fun k hk => (show ∀ x ∈ ([0, 1, 51] : List Int), 0 ≤ x ∧ x ≤ 51 by intro x hx; simp at hx; omega) _ (List.getElem_mem hk))).mono ?_; rintro e w9 ⟨x9, rfl, hx9a, hx9b, hcu9, hg9⟩)
            exact RQO_of (.int .i64 x9) rfl (by first | rfl | (simp [gotV]; done) | (simp [gotV, *]; done)) ⟨hg9, CurS.mono hcu9 (by omega), ⟨x9, rfl, hx9a, hx9b⟩, fun h => absurd h (by decide)⟩
          | 5, _ =>
            injection ho with ho
            subst ho
            clear hf
            have hz1 := hgW.size
            have hlt1 := CurS.lt hT
            simp only [fillA, List.take, List.drop, put_none, Act.put, List.setIfInBounds_toArray, List.set_cons_zero, List.set_cons_succ, Nat.reduceAdd]
            go_wp2_with (fail)
            exact ⟨rfl, rfl, World.grownBy.refl _ _, CurS.mono hT (by omega), (by first | rfl | (simp [FSd]; done) | (simp [FSd, *]; done) | (simp [FSd, gotV]; done) | (simp [FSd, gotV, *]; done)), fun h => absurd h (by decide)⟩
          | 6, _ =>
            injection ho with ho
            subst ho
            clear hf
            have hz1 := hgW.size
            have hlt1 := CurS.lt hT
            simp only [fillA, List.take, List.drop, put_none, Act.put, List.setIfInBounds_toArray, List.set_cons_zero, List.set_cons_succ, Nat.reduceAdd]
            go_wp2_with (fail)
            exact ⟨rfl, rfl, grownA (World.grownBy.refl _ _), CurS.mono (CurS.allo hT) (by omega), ⟨_, rfl, by omega, heap_alloc_new _ _⟩, fun h => absurd h (by decide)⟩
          | 7, _ =>
            injection ho with ho
            subst ho
            have e5 : vals 5 = .pointer (some ⟨b, 0, none⟩) := hf 5 (by decide) (by kernel_rfl)
            obtain ⟨g6, e6, hB6, hh6⟩ := hf 6 (by decide) (by kernel_rfl)
            obtain ⟨x4, e4, hxa4, hxb4⟩ := hf 4 (by decide) (by kernel_rfl)
            clear hf
            have hz1 := hgW.size
            have hlt1 := CurS.lt hT
            simp only [fillA, List.take, List.drop, put_none, Act.put, List.setIfInBounds_toArray, List.set_cons_zero, List.set_cons_succ, Nat.reduceAdd, e5, e6, e4]
            go_wp2_with (go_at_call 82; refine (c_among b A cs cap (m + 200 + 1 + k) _ ([0, 21] : List Int) _ (0) (21) _ hT hby (by omega) hl (Rds.of_block hh6 (by intro i x h; rcases i with _ | _ | i <;> simp at h ⊢ <;> first | exact h | omega)) (by simp) (by intro a ha; cases ha; simp; omega) (fun k hk => (show ∀ x ∈ ([0, 21] : List Int), 0 ≤ x ∧ x ≤ 21 by intro x hx; simp at hx; omega) _ (List.getElem_mem hk))).mono ?_; rintro e w9 ⟨x9, rfl, hx9a, hx9b, hcu9, hg9⟩)
            exact RQO_of (.int .i64 x9) rfl (by first | rfl | (simp [gotV]; done) | (simp [gotV, *]; done)) ⟨hg9, CurS.mono hcu9 (by omega), ⟨x9, rfl, hx9a, hx9b⟩, fun h => absurd h (by decide)⟩
          | 8, _ =>
            injection ho with ho
            subst ho
            clear hf
            have hz1 := hgW.size
            have hlt1 := CurS.lt hT
            simp only [fillA, List.take, List.drop, put_none, Act.put, List.setIfInBounds_toArray, List.set_cons_zero, List.set_cons_succ, Nat.reduceAdd]
            go_wp2_with (fail)
            exact ⟨rfl, rfl, World.grownBy.refl _ _, CurS.mono hT (by omega), (by first | rfl | (simp [FSd]; done) | (simp [FSd, *]; done) | (simp [FSd, gotV]; done) | (simp [FSd, gotV, *]; done)), fun h => absurd h (by decide)⟩
          | 9, _ =>
            injection ho with ho
            subst ho
            clear hf
            have hz1 := hgW.size
            have hlt1 := CurS.lt hT
            simp only [fillA, List.take, List.drop, put_none, Act.put, List.setIfInBounds_toArray, List.set_cons_zero, List.set_cons_succ, Nat.reduceAdd]
            go_wp2_with (fail)
            exact ⟨rfl, rfl, grownA (World.grownBy.refl _ _), CurS.mono (CurS.allo hT) (by omega), ⟨_, rfl, by omega, heap_alloc_new _ _⟩, fun h => absurd h (by decide)⟩
          | 10, _ =>
            injection ho with ho
            subst ho
            have e8 : vals 8 = .pointer (some ⟨b, 0, none⟩) := hf 8 (by decide) (by kernel_rfl)
            obtain ⟨g9, e9, hB9, hh9⟩ := hf 9 (by decide) (by kernel_rfl)
            obtain ⟨x7, e7, hxa7, hxb7⟩ := hf 7 (by decide) (by kernel_rfl)
            clear hf
            have hz1 := hgW.size
            have hlt1 := CurS.lt hT
            simp only [fillA, List.take, List.drop, put_none, Act.put, List.setIfInBounds_toArray, List.set_cons_zero, List.set_cons_succ, Nat.reduceAdd, e8, e9, e7]
            go_wp2_with (go_at_call 82; refine (c_among b A cs cap (m + 200 + 1 + k) _ ([0, 51] : List Int) _ (0) (51) _ hT hby (by omega) hl (Rds.of_block hh9 (by intro i x h; rcases i with _ | _ | i <;> simp at h ⊢ <;> first | exact h | omega)) (by simp) (by intro a ha; cases ha; simp; omega) (fun k hk => (show ∀ x ∈ ([0, 51] : List Int), 0 ≤ x ∧ x ≤ 51 by intro x hx; simp at hx; omega) _ (List.getElem_mem hk))).mono ?_; rintro e w9 ⟨x9, rfl, hx9a, hx9b, hcu9, hg9⟩)
            exact RQO_of (.int .i64 x9) rfl (by first | rfl | (simp [gotV]; done) | (simp [gotV, *]; done)) ⟨hg9, CurS.mono hcu9 (by omega), ⟨x9, rfl, hx9a, hx9b⟩, fun h => absurd h (by decide)⟩
          | 11, _ =>
            injection ho with ho
            subst ho
            obtain ⟨x4, e4, hxa4, hxb4⟩ := hf 4 (by decide) (by kernel_rfl)
            obtain ⟨x7, e7, hxa7, hxb7⟩ := hf 7 (by decide) (by kernel_rfl)
            obtain ⟨x10, e10, hxa10, hxb10⟩ := hf 10 (by decide) (by kernel_rfl)
            clear hf
            have hz1 := hgW.size
            have hlt1 := CurS.lt hT
            simp only [fillA, List.take, List.drop, put_none, Act.put, List.setIfInBounds_toArray, List.set_cons_zero, List.set_cons_succ, Nat.reduceAdd, e4, e7, e10]
            go_wp2_with (fail)
            exact RQO_of (.agg #[.int .i64 x4, .int .i64 x7, .int .i64 x10]) rfl (by first | rfl | (simp [gotV]; done) | (simp [gotV, *]; done)) ⟨World.grownBy.refl _ _, CurS.mono hT (by omega), ⟨(x4, x7, x10), rfl⟩, fun h => absurd h (by decide)⟩
          | 12, _ =>
            injection ho with ho
            subst ho
            obtain ⟨q11, e11⟩ := hf 11 (by decide) (by kernel_rfl)
            clear hf
            have hz1 := hgW.size
            have hlt1 := CurS.lt hT
            simp only [fillA, List.take, List.drop, put_none, Act.put, List.setIfInBounds_toArray, List.set_cons_zero, List.set_cons_succ, Nat.reduceAdd, e11]
            go_wp2_with (fail)
            exact ⟨rfl, rfl, grownA (World.grownBy.refl _ _), CurS.mono (CurS.allo hT) (by omega), ⟨q11, _, rfl, by omega, heap_alloc_new _ _⟩, fun h => absurd h (by decide)⟩
          | q + 13, h => exact absurd h (by omega)
        · intro vals W5 hT hgW hf hd
          have e0 : vals 0 = .pointer (some ⟨tb, 4, none⟩) := hf 0 (by decide)
          have e1 : vals 1 = .slice A3 ps.length cp3 := hf 1 (by decide)
          have e2 : vals 2 = .pointer (some ⟨b, 0, none⟩) := hf 2 (by decide)
          obtain ⟨g3, e3, hB3, hh3⟩ := hf 3 (by decide)
          obtain ⟨x4, e4, hxa4, hxb4⟩ := hf 4 (by decide)
          have e5 : vals 5 = .pointer (some ⟨b, 0, none⟩) := hf 5 (by decide)
          obtain ⟨g6, e6, hB6, hh6⟩ := hf 6 (by decide)
          obtain ⟨x7, e7, hxa7, hxb7⟩ := hf 7 (by decide)
          have e8 : vals 8 = .pointer (some ⟨b, 0, none⟩) := hf 8 (by decide)
          obtain ⟨g9, e9, hB9, hh9⟩ := hf 9 (by decide)
          obtain ⟨x10, e10, hxa10, hxb10⟩ := hf 10 (by decide)
          obtain ⟨q11, e11⟩ := hf 11 (by decide)
          obtain ⟨q12, g12, e12, hB12, hh12⟩ := hf 12 (by decide)
          clear hf hd
          simp only [fillA, List.take, List.drop, put_none, Act.put, List.setIfInBounds_toArray, List.set_cons_zero, List.set_cons_succ, Nat.reduceAdd, e0, e1, e2, e3, e4, e5, e6, e7, e8, e9, e10, e11, e12]
          have hkW5 := hgW.size
          have c424 : W5.cell? ⟨tb, 0, none⟩ = some (.int .i64 dx10) := (cellRow hgW (tb) 0).trans (by rw [if_pos ⟨by omega, by omega⟩]; exact c408)
          have c425 : W5.cell? ⟨tb, 1, none⟩ = some (.int .i64 dx48) := (cellRow hgW (tb) 1).trans (by rw [if_pos ⟨by omega, by omega⟩]; exact c409)
          have c426 : W5.cell? ⟨tb, 2, none⟩ = some (.int .i64 dx29) := (cellRow hgW (tb) 2).trans (by rw [if_pos ⟨by omega, by omega⟩]; exact c410)
          have c427 : W5.cell? ⟨tb, 3, none⟩ = some (.slice A2 fs.length cp2) := (cellRow hgW (tb) 3).trans (by rw [if_pos ⟨by omega, by omega⟩]; exact c411)
          have c428 : W5.cell? ⟨tb, 4, none⟩ = some (.slice A3 ps.length cp3) := (cellRow hgW (tb) 4).trans (by rw [if_pos ⟨by omega, by omega⟩]; exact c412)
          have c429 : W5.cell? ⟨w.heap.size, 0, none⟩ = some (.int .i64 0) := (cellRow hgW (w.heap.size) 0).trans (by rw [if_pos ⟨by omega, by omega⟩]; exact c413)
          have c430 : W5.cell? ⟨w.heap.size, 1, none⟩ = some (.int .i64 0) := (cellRow hgW (w.heap.size) 1).trans (by rw [if_pos ⟨by omega, by omega⟩]; exact c414)
          have c431 : W5.cell? ⟨w.heap.size, 2, none⟩ = some (.int .i64 0) := (cellRow hgW (w.heap.size) 2).trans (by rw [if_pos ⟨by omega, by omega⟩]; exact c415)
          have c432 : W5.cell? ⟨w.heap.size, 3, none⟩ = some (.slice none 0 0) := (cellRow hgW (w.heap.size) 3).trans (by rw [if_pos ⟨by omega, by omega⟩]; exact c416)
          have c433 : W5.cell? ⟨w.heap.size, 4, none⟩ = some (.slice none 0 0) := (cellRow hgW (w.heap.size) 4).trans (by rw [if_pos ⟨by omega, by omega⟩]; exact c417)
          have z434 : ∀ o, W5.frozen? ⟨w.heap.size, o, none⟩ = false := fun o => (frozRow hgW (w.heap.size) o).trans (by rw [if_pos ⟨by omega, by omega⟩]; exact z418 o)
          have z435 : ∀ o, W5.frozen? ⟨tb, o, none⟩ = false := fun o => (frozRow hgW (tb) o).trans (by rw [if_pos ⟨by omega, by omega⟩]; exact z419 o)
          have R436 : Hid (FreshA cIn 1 3 (tb + 1) W5 A2 cp2 fs) := hid (FreshA.rowb R420.out hgW (by omega))
          have R437 : Hid (FreshA cPu 3 71 (tb + 1) W5 A3 cp3 ps) := hid (FreshA.rowb R421.out hgW (by omega))
          have cu438 : CurS W5 b A cs cap (m + 200 + 1 + 13) := hT
          have gw439 : w.grownBy W5 (some b) := grown_trans gw423 hgW
          have hzgw439 := gw439.size
          have hlcu438 := cu438.lt
          clear c408 c409 c410 c411 c412 c413 c414 c415 c416 c417 z418 z419 R420 R421 cu422 gw423
          clear hgW
          refine wpList_pushesR (xs := ps) rfl (.tmp 84) (.tmp 95) 29 rfl 71 j0 _ 24 Try.underlying29 hJ0 hJ1 hJ2 hJ3 rfl (by decide) (fun _ => rfl) one_Pu _ rfl rfl R437.out [q12] 1 rfl (some ⟨g12, 0, none⟩) _ rfl (Rds.ofBox hh12) (by unfold maxLen; omega) (by first | omega | (simp; omega)) (by omega) ?_
          intro A5 cp5 W6 hF3 hg3 hat3
          have hkW6 := hg3.size
          have hlo := R437.out.lo
          have c440 : W6.cell? ⟨tb, 0, none⟩ = some (.int .i64 dx10) := (World.cell?_of_block (a := ⟨tb, 0, none⟩) (hg3.block (tb) (by omega) (ne_blk hlo (by omega)))).trans c424
          have c441 : W6.cell? ⟨tb, 1, none⟩ = some (.int .i64 dx48) := (World.cell?_of_block (a := ⟨tb, 1, none⟩) (hg3.block (tb) (by omega) (ne_blk hlo (by omega)))).trans c425
          have c442 : W6.cell? ⟨tb, 2, none⟩ = some (.int .i64 dx29) := (World.cell?_of_block (a := ⟨tb, 2, none⟩) (hg3.block (tb) (by omega) (ne_blk hlo (by omega)))).trans c426
          have c443 : W6.cell? ⟨tb, 3, none⟩ = some (.slice A2 fs.length cp2) := (World.cell?_of_block (a := ⟨tb, 3, none⟩) (hg3.block (tb) (by omega) (ne_blk hlo (by omega)))).trans c427
          have c444 : W6.cell? ⟨tb, 4, none⟩ = some (.slice A3 ps.length cp3) := (World.cell?_of_block (a := ⟨tb, 4, none⟩) (hg3.block (tb) (by omega) (ne_blk hlo (by omega)))).trans c428
          have c445 : W6.cell? ⟨w.heap.size, 0, none⟩ = some (.int .i64 0) := (World.cell?_of_block (a := ⟨w.heap.size, 0, none⟩) (hg3.block (w.heap.size) (by omega) (ne_blk hlo (by omega)))).trans c429
          have c446 : W6.cell? ⟨w.heap.size, 1, none⟩ = some (.int .i64 0) := (World.cell?_of_block (a := ⟨w.heap.size, 1, none⟩) (hg3.block (w.heap.size) (by omega) (ne_blk hlo (by omega)))).trans c430
          have c447 : W6.cell? ⟨w.heap.size, 2, none⟩ = some (.int .i64 0) := (World.cell?_of_block (a := ⟨w.heap.size, 2, none⟩) (hg3.block (w.heap.size) (by omega) (ne_blk hlo (by omega)))).trans c431
          have c448 : W6.cell? ⟨w.heap.size, 3, none⟩ = some (.slice none 0 0) := (World.cell?_of_block (a := ⟨w.heap.size, 3, none⟩) (hg3.block (w.heap.size) (by omega) (ne_blk hlo (by omega)))).trans c432
          have c449 : W6.cell? ⟨w.heap.size, 4, none⟩ = some (.slice none 0 0) := (World.cell?_of_block (a := ⟨w.heap.size, 4, none⟩) (hg3.block (w.heap.size) (by omega) (ne_blk hlo (by omega)))).trans c433
          have z450 : ∀ o, W6.frozen? ⟨w.heap.size, o, none⟩ = false := fun o => (World.frozen?_of_block (a := ⟨w.heap.size, o, none⟩) (hg3.block (w.heap.size) (by omega) (ne_blk hlo (by omega)))).trans (z434 o)
          have z451 : ∀ o, W6.frozen? ⟨tb, o, none⟩ = false := fun o => (World.frozen?_of_block (a := ⟨tb, o, none⟩) (hg3.block (tb) (by omega) (ne_blk hlo (by omega)))).trans (z435 o)
          have R452 : Hid (FreshA cIn 1 3 (tb + 1) W6 A2 cp2 fs) := hid (FreshA.grown R436.out hg3 (FreshA.apart R436.out R437.out (by decide)))
          have R453 : Hid (FreshA cPu 3 71 (tb + 1) W6 A5 cp5 (ps ++ [q12])) := hid (hF3)
          have cu454 : CurS W6 b A cs cap (m + 200 + 1 + 13) := CurS.other cu438 hg3 hlo (by omega)
          have gw455 : w.grownBy W6 (some b) := grown_other gw439 hg3 (hlo.mono (by omega))
          have hzgw455 := gw455.size
          have hlcu454 := cu454.lt
          clear c424 c425 c426 c427 c428 c429 c430 c431 c432 c433 z434 z435 R436 R437 cu438 gw439
          clear hlo
          clear hF3 hg3 hat3
          have hl5 : (ps ++ [q12]).length = ps.length + 1 := by simp
          go_wp2_with (fail)
          refine post_named ?_
          intro V456 hV
          have hkV456 : W6.heap.size ≤ V456.heap.size := by rw [hV]; first | with_reducible exact Nat.le_refl _ | (simp [World.setCell]; done) | (simp; omega)
          have R457 : Hid (FreshA cIn 1 3 (tb + 1) V456 A2 cp2 fs) := hid (by rw [hV]; (repeat' (first | with_reducible exact R452.out | with_reducible refine FreshA.set_at ?_ (by assumption) _ | with_reducible refine FreshA.set_low ?_ ?_ _ | with_reducible refine FreshA.below ?_ (Below.drew (Below.refl _ _)) | with_reducible refine FreshA.below ?_ (Below.alloc (Below.refl _ _) (Nat.le_refl _) _) | (dsimp only; omega) | (simp; done) | (simp; omega))))
          have R458 : Hid (FreshA cPu 3 71 (tb + 1) V456 A5 cp5 (ps ++ [q12])) := hid (by rw [hV]; (repeat' (first | with_reducible exact R453.out | with_reducible refine FreshA.set_at ?_ (by assumption) _ | with_reducible refine FreshA.set_low ?_ ?_ _ | with_reducible refine FreshA.below ?_ (Below.drew (Below.refl _ _)) | with_reducible refine FreshA.below ?_ (Below.alloc (Below.refl _ _) (Nat.le_refl _) _) | (dsimp only; omega) | (simp; done) | (simp; omega))))
          have cu459 : CurS V456 b A cs cap (m + 200 + 1 + 13) := by rw [hV]; (repeat' (first | with_reducible refine CurS.setc ?_ ?_ | with_reducible refine CurS.allo ?_ | with_reducible refine CurS.drw ?_ | with_reducible exact cu454 | (dsimp only; omega) | (simp; done) | (simp; omega)))
          have gw460 : w.grownBy V456 (some b) := by rw [hV]; (repeat' (first | with_reducible exact World.grownBy.refl _ _ | with_reducible exact gw455 | with_reducible refine grownA ?_ | with_reducible refine grownS ?_ ?_ | with_reducible refine grown_drew ?_ | (dsimp only; omega) | (simp; done) | omega))
          have hzgw460 := gw460.size
          have hlcu459 := cu459.lt
          clear R452 R453 cu454 gw455
          have r0 : V456.cell? ⟨w.heap.size, 0, none⟩ = some (.int .i64 dx10) := by rw [hV]; first | (simp [go_sem, ↓IntWalk.iteOmega, *]; done) | (simp [go_sem, ↓IntWalk.iteOmega, *]; intros; omega)
          have r1 : V456.cell? ⟨w.heap.size, 1, none⟩ = some (.int .i64 dx48) := by rw [hV]; first | (simp [go_sem, ↓IntWalk.iteOmega, *]; done) | (simp [go_sem, ↓IntWalk.iteOmega, *]; intros; omega)
          have r2 : V456.cell? ⟨w.heap.size, 2, none⟩ = some (.int .i64 dx29) := by rw [hV]; first | (simp [go_sem, ↓IntWalk.iteOmega, *]; done) | (simp [go_sem, ↓IntWalk.iteOmega, *]; intros; omega)
          have r3 : V456.cell? ⟨w.heap.size, 3, none⟩ = some (.slice A2 fs.length cp2) := by rw [hV]; first | (simp [go_sem, ↓IntWalk.iteOmega, *]; done) | (simp [go_sem, ↓IntWalk.iteOmega, *]; intros; omega)
          have r4 : V456.cell? ⟨w.heap.size, 4, none⟩ = some (.slice A5 ((ps ++ [q12])).length cp5) := by rw [hV]; first | (simp [go_sem, ↓IntWalk.iteOmega, *]; done) | (simp [go_sem, ↓IntWalk.iteOmega, *]; intros; omega)
          clear hV
          refine bodyPost_ret (v := .agg #[.int .i64 dx10, .int .i64 dx48, .int .i64 dx29, .slice A2 fs.length cp2, .slice A5 ((ps ++ [q12])).length cp5]) ?_ rfl ⟨dx10, dx48, dx29, A2, cp2, fs, A5, cp5, ((ps ++ [q12])), rfl, FreshA.mono R457.out (by omega), FreshA.mono R458.out (by omega), by first | omega | (simp; omega) | simp, by first | omega | (simp; omega), CurS.mono cu459 (by omega), gw460⟩
          simp [results, Try.results69, go_sem, r0, r1, r2, r3, r4]
      by_cases hq : dx234 = 5
      · subst hq
        obtain ⟨gf, rfl, hBf, hOf⟩ := FreshA.row R248.out (by omega)
        have HOF := hid hOf
        clear hOf
        go_wp2_with (fail)
        refine post_named ?_
        intro V461 hV
        have hkV461 : W235.heap.size ≤ V461.heap.size := by rw [hV]; first | with_reducible exact Nat.le_refl _ | (simp [World.setCell]; done) | (simp; omega)
        have R462 : Hid (FreshA cPu 3 71 (tb + 1) V461 A3 cp3 ps) := hid (by rw [hV]; (repeat' (first | with_reducible exact R249.out | with_reducible refine FreshA.set_at ?_ (by assumption) _ | with_reducible refine FreshA.set_low ?_ ?_ _ | with_reducible refine FreshA.below ?_ (Below.drew (Below.refl _ _)) | with_reducible refine FreshA.below ?_ (Below.alloc (Below.refl _ _) (Nat.le_refl _) _) | (dsimp only; omega) | (simp; done) | (simp; omega))))
        have cu463 : CurS V461 b A cs cap (m + 200 + 1) := by rw [hV]; (repeat' (first | with_reducible refine CurS.setc ?_ ?_ | with_reducible refine CurS.allo ?_ | with_reducible refine CurS.drw ?_ | with_reducible exact cu250 | (dsimp only; omega) | (simp; done) | (simp; omega)))
        have gw464 : w.grownBy V461 (some b) := by rw [hV]; (repeat' (first | with_reducible exact World.grownBy.refl _ _ | with_reducible exact gw251 | with_reducible refine grownA ?_ | with_reducible refine grownS ?_ ?_ | with_reducible refine grown_drew ?_ | (dsimp only; omega) | (simp; done) | omega))
        have hzgw464 := gw464.size
        have hlcu463 := cu463.lt
        clear R249 cu250 gw251
        have r0 : V461.cell? ⟨w.heap.size, 0, none⟩ = some (.int .i64 dx10) := by rw [hV]; first | (simp [go_sem, ↓IntWalk.iteOmega, *]; done) | (simp [go_sem, ↓IntWalk.iteOmega, *]; intros; omega)
        have r1 : V461.cell? ⟨w.heap.size, 1, none⟩ = some (.int .i64 dx48) := by rw [hV]; first | (simp [go_sem, ↓IntWalk.iteOmega, *]; done) | (simp [go_sem, ↓IntWalk.iteOmega, *]; intros; omega)
        have r2 : V461.cell? ⟨w.heap.size, 2, none⟩ = some (.int .i64 dx29) := by rw [hV]; first | (simp [go_sem, ↓IntWalk.iteOmega, *]; done) | (simp [go_sem, ↓IntWalk.iteOmega, *]; intros; omega)
        have r3 : V461.cell? ⟨w.heap.size, 3, none⟩ = some (.slice ((some ⟨gf, 0, none⟩)) (([] : List Int)).length cp2) := by rw [hV]; first | (simp [go_sem, ↓IntWalk.iteOmega, *]; done) | (simp [go_sem, ↓IntWalk.iteOmega, *]; intros; omega)
        have r4 : V461.cell? ⟨w.heap.size, 4, none⟩ = some (.slice A3 ps.length cp3) := by rw [hV]; first | (simp [go_sem, ↓IntWalk.iteOmega, *]; done) | (simp [go_sem, ↓IntWalk.iteOmega, *]; intros; omega)
        have RFN := hid (show FreshA cIn 1 3 (tb + 1) V461 ((some ⟨gf, 0, none⟩)) cp2 (([] : List Int)) by rw [hV]; refine FreshA.of_own1 ?_ (by omega); repeat' (first | with_reducible exact (OwnS.empty HOF.out) | with_reducible refine OwnS.set_far ?_ ?_ _ | (dsimp only; omega) | (simp; done)))
        clear hV
        refine bodyPost_ret (v := .agg #[.int .i64 dx10, .int .i64 dx48, .int .i64 dx29, .slice ((some ⟨gf, 0, none⟩)) (([] : List Int)).length cp2, .slice A3 ps.length cp3]) ?_ rfl ⟨dx10, dx48, dx29, ((some ⟨gf, 0, none⟩)), cp2, (([] : List Int)), A3, cp3, ps, rfl, FreshA.mono RFN.out (by omega), FreshA.mono R462.out (by omega), by first | omega | (simp; omega) | simp, by first | omega | (simp; omega), CurS.mono cu463 (by omega), gw464⟩
        simp [results, Try.results69, go_sem, r0, r1, r2, r3, r4]
      go_wp2_with (fail)
      refine post_named ?_
      intro V465 hV
      have hkV465 : W235.heap.size ≤ V465.heap.size := by rw [hV]; first | with_reducible exact Nat.le_refl _ | (simp [World.setCell]; done) | (simp; omega)
      have R466 : Hid (FreshA cIn 1 3 (tb + 1) V465 A2 cp2 fs) := hid (by rw [hV]; (repeat' (first | with_reducible exact R248.out | with_reducible refine FreshA.set_at ?_ (by assumption) _ | with_reducible refine FreshA.set_low ?_ ?_ _ | with_reducible refine FreshA.below ?_ (Below.drew (Below.refl _ _)) | with_reducible refine FreshA.below ?_ (Below.alloc (Below.refl _ _) (Nat.le_refl _) _) | (dsimp only; omega) | (simp; done) | (simp; omega))))
      have R467 : Hid (FreshA cPu 3 71 (tb + 1) V465 A3 cp3 ps) := hid (by rw [hV]; (repeat' (first | with_reducible exact R249.out | with_reducible refine FreshA.set_at ?_ (by assumption) _ | with_reducible refine FreshA.set_low ?_ ?_ _ | with_reducible refine FreshA.below ?_ (Below.drew (Below.refl _ _)) | with_reducible refine FreshA.below ?_ (Below.alloc (Below.refl _ _) (Nat.le_refl _) _) | (dsimp only; omega) | (simp; done) | (simp; omega))))
      have cu468 : CurS V465 b A cs cap (m + 200 + 1) := by rw [hV]; (repeat' (first | with_reducible refine CurS.setc ?_ ?_ | with_reducible refine CurS.allo ?_ | with_reducible refine CurS.drw ?_ | with_reducible exact cu250 | (dsimp only; omega) | (simp; done) | (simp; omega)))
      have gw469 : w.grownBy V465 (some b) := by rw [hV]; (repeat' (first | with_reducible exact World.grownBy.refl _ _ | with_reducible exact gw251 | with_reducible refine grownA ?_ | with_reducible refine grownS ?_ ?_ | with_reducible refine grown_drew ?_ | (dsimp only; omega) | (simp; done) | omega))
      have hzgw469 := gw469.size
      have hlcu468 := cu468.lt
      clear R248 R249 cu250 gw251
      have r0 : V465.cell? ⟨w.heap.size, 0, none⟩ = some (.int .i64 dx10) := by rw [hV]; first | (simp [go_sem, ↓IntWalk.iteOmega, *]; done) | (simp [go_sem, ↓IntWalk.iteOmega, *]; intros; omega)
      have r1 : V465.cell? ⟨w.heap.size, 1, none⟩ = some (.int .i64 dx48) := by rw [hV]; first | (simp [go_sem, ↓IntWalk.iteOmega, *]; done) | (simp [go_sem, ↓IntWalk.iteOmega, *]; intros; omega)
      have r2 : V465.cell? ⟨w.heap.size, 2, none⟩ = some (.int .i64 dx29) := by rw [hV]; first | (simp [go_sem, ↓IntWalk.iteOmega, *]; done) | (simp [go_sem, ↓IntWalk.iteOmega, *]; intros; omega)
      have r3 : V465.cell? ⟨w.heap.size, 3, none⟩ = some (.slice A2 fs.length cp2) := by rw [hV]; first | (simp [go_sem, ↓IntWalk.iteOmega, *]; done) | (simp [go_sem, ↓IntWalk.iteOmega, *]; intros; omega)
      have r4 : V465.cell? ⟨w.heap.size, 4, none⟩ = some (.slice A3 ps.length cp3) := by rw [hV]; first | (simp [go_sem, ↓IntWalk.iteOmega, *]; done) | (simp [go_sem, ↓IntWalk.iteOmega, *]; intros; omega)
      clear hV
      refine bodyPost_ret (v := .agg #[.int .i64 dx10, .int .i64 dx48, .int .i64 dx29, .slice A2 fs.length cp2, .slice A3 ps.length cp3]) ?_ rfl ⟨dx10, dx48, dx29, A2, cp2, fs, A3, cp3, ps, rfl, FreshA.mono R466.out (by omega), FreshA.mono R467.out (by omega), by first | omega | (simp; omega) | simp, by first | omega | (simp; omega), CurS.mono cu468 (by omega), gw469⟩
      simp [results, Try.results69, go_sem, r0, r1, r2, r3, r4]

end Go.Proofs.Ytpaclngjmdacjaa
