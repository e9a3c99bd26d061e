import Derived.Test.YtfipmalomhflgaaQS06
import Derived.Test.YtfipmalomhflgaaQS00
import Derived.Deep.Upon
import Derived.Test.YtfipmalomhflgaaQS03
namespace Go.Proofs.Ytfipmalomhflgaa
set_option linter.unusedSimpArgs false
set_option linter.unusedVariables false
open Go.RowKit

/-- the block of a value of the insertion's region -/
def bkI : Value → Option Nat
  | .pointer (some a) => some a.block
  | .slice (some a) _ _ => some a.block
  | .agg #[_, .slice (some a) _ _] => some a.block
  | _ => none
def SlO {α : Type} (cf : α → List Value) (sz : Nat) (T : TypeId) (B : Nat) (L : List α) (n : Nat) (v : Value) (w : World) : Prop := ∃ A cap, v = .slice A n cap ∧ FreshA cf sz T B w A cap L
def AgO {α : Type} (d : Int) (cf : α → List Value) (sz : Nat) (T : TypeId) (B : Nat) (L : List α) (n : Nat) (v : Value) (w : World) : Prop := ∃ A cap, v = .agg #[.int .i64 d, .slice A n cap] ∧ FreshA cf sz T B w A cap L
def ObO (B : Nat) (o : Obj) (v : Value) (w : World) : Prop := ∃ g, v = .pointer (some ⟨g, 0, none⟩) ∧ B ≤ g ∧ w.heap[g]? = some o
section
variable {α : Type} {cf : α → List Value} {sz : Nat} {T : TypeId} {B n : Nat} {L : List α} {v : Value} {w w1 w2 : World} {row : Option Nat} {d : Int} {o : Obj}
theorem bkI_sl {A : Option Addr} {m c : Nat} : bkI (.slice A m c) = blkO A := by cases A <;> rfl
theorem bkI_ag {A : Option Addr} {m c : Nat} : bkI (.agg #[.int .i64 d, .slice A m c]) = blkO A := by cases A <;> rfl
theorem ne_row {A : Option Addr} (h : blkO A = none ∨ blkO A ≠ row) : ∀ a, A = some a → some a.block ≠ row := by
  intro a ha
  subst ha
  rcases h with h | h
  · cases h
  · exact h
theorem SlO.keep (h : SlO cf sz T B L n v w1) (hg : w1.grownBy w2 row) (hb : bkI v = none ∨ bkI v ≠ row) : SlO cf sz T B L n v w2 := by
  obtain ⟨A, cap, rfl, hF⟩ := h
  rw [bkI_sl] at hb
  exact ⟨A, cap, rfl, hF.grown hg (ne_row hb)⟩
theorem AgO.keep (h : AgO d cf sz T B L n v w1) (hg : w1.grownBy w2 row) (hb : bkI v = none ∨ bkI v ≠ row) : AgO d cf sz T B L n v w2 := by
  obtain ⟨A, cap, rfl, hF⟩ := h
  rw [bkI_ag] at hb
  exact ⟨A, cap, rfl, hF.grown hg (ne_row hb)⟩
theorem ObO.keep (h : ObO B o v w1) (hg : w1.grownBy w2 row) (hb : bkI v = none ∨ bkI v ≠ row) : ObO B o v w2 := by
  obtain ⟨g, rfl, hB, hh⟩ := h
  refine ⟨g, rfl, hB, (hg.block g (Fresh.lt hh) ?_).trans hh⟩
  rcases hb with hb | hb
  · cases hb
  · exact hb
theorem fresh_at {A : Option Addr} {cap : Nat} (hF : FreshA cf sz T B w A cap L) : ∀ b, blkO A = some b → B ≤ b ∧ b < w.heap.size := by
  intro b hb
  cases A with
  | none => cases hb
  | some a =>
    simp only [blkO, Option.map_some, Option.some.injEq] at hb
    subst hb
    exact ⟨hF.lo a rfl, hF.hi a rfl⟩
theorem SlO.at_ (h : SlO cf sz T B L n v w) : ∀ b, bkI v = some b → B ≤ b ∧ b < w.heap.size := by
  obtain ⟨A, cap, rfl, hF⟩ := h
  rw [bkI_sl]
  exact fresh_at hF
theorem AgO.at_ (h : AgO d cf sz T B L n v w) : ∀ b, bkI v = some b → B ≤ b ∧ b < w.heap.size := by
  obtain ⟨A, cap, rfl, hF⟩ := h
  rw [bkI_ag]
  exact fresh_at hF
theorem ObO.at_ (h : ObO B o v w) : ∀ b, bkI v = some b → B ≤ b ∧ b < w.heap.size := by
  obtain ⟨g, rfl, hB, hh⟩ := h
  intro b hb
  cases hb
  exact ⟨hB, Fresh.lt hh⟩
end
section
variable {α : Type} {cf : α → List Value} {sz : Nat} {T : TypeId} {w w' : World} {A : Option Addr} {xs : List α} {g cap B : Nat}
theorem FreshA.capLe (h : FreshA cf sz T B w A cap xs) : xs.length ≤ cap := by
  rcases h with ⟨_, rfl, rfl⟩ | ⟨g, _, _, _, _, _, h, _⟩
  · exact Nat.le_refl _
  · exact h
/-- 'append(s, ys...)' on a slice of the call's own, of whatever reads as ys -/
theorem wp_pushesR {P : Program} {o : Oper} {a : Act} {K : Act → World → Prop} {Q : Exit → Act → World → Prop} (s x : Operand) (t : TypeId)
    (ho : o.op = .call { callee := .builtin .append, args := #[s, x], argTypes := #[t, t] })
    (e : TypeId) (i : TypeInfo) (z : Value) (bytes : Nat) (ht : P.underlying t = some (.slice e)) (hi : P.info? e = some i) (hz : i.zero = some z)
    (hsize : i.size = sz) (hby : i.bytes = bytes) (hzs : z.cells.size = sz) (hsz : 0 < sz) (hcf : ∀ x, (cf x).length = sz) (hone : ∀ x, ∀ u ∈ cf x, u.oneCell' = true)
    (n : Nat) (hn : xs.length = n) (hs : a.eval s = .slice A n cap) (hF : FreshA cf sz e B w A cap xs)
    (ys : List α) (m : Nat) (hm : ys.length = m) (Ax : Option Addr) (c : Nat) (hx : a.eval x = .slice Ax m c) (hr : Rds cf sz w Ax ys)
    (h63 : n + m ≤ maxLen) (hbytes : (n + m) * bytes ≤ 140737488355328) (hbase : B ≤ w.heap.size)
    (h : ∀ A' cap' w', FreshA cf sz e B w' A' cap' (xs ++ ys) → w.grownBy w' (blkO A) → (blkO A' = blkO A ∨ blkO A' = some w.heap.size) → K (a.put o.dst (.slice A' (n + m) cap')) w') : o.wp P a w K Q := by
  by_cases h0 : ys.length = 0
  · obtain rfl := List.eq_nil_of_length_eq_zero h0
    subst hn
    simp only [List.length_nil] at hm
    subst hm
    have hsrc : Src P i.size t (.slice Ax 0 c) 0 [] w := by
      cases Ax with
      | none => exact Src.ofNil w ht c
      | some q => exact Src.ofSlice w ht q 0 c [] (by simp) (fun j u hj => by simp at hj) (fun u hu => by cases hu)
    have hrun := run_append_nothing (P := P) w t t o.type e i ht hi A xs.length cap hF.capLe (.slice Ax 0 c) hsrc
    unfold Oper.wp execOp
    simp only [ho, resolve, invoke, builtin, Sem.run_bind, Sem.run_pure, Result.andThen_ok, List.map_toArray, List.map_cons, List.map_nil, hs, hx, hrun]
    exact h A cap w (by simpa using hF) (World.grownBy.refl _ _) (.inl rfl)
  · obtain ⟨b, off, rfl, hb, hc⟩ := Rds.all hr (by omega)
    exact wp_pushes s x t ho e i z bytes ht hi hz hsize hby hzs hsz hcf hone n hn hs hF ys m hm b off c hx hc h63 hbytes hbase h
theorem Rds.takeN (h : Rds cf sz w A xs) (k : Nat) : Rds cf sz w A (xs.take k) := by
  intro i x hx
  refine h i x ?_
  rw [List.getElem?_take] at hx
  split at hx
  · exact hx
  · cases hx
theorem Rds.dropN (h : Rds cf sz w A xs) (k : Nat) (A' : Option Addr) (hA : ∀ b off, A = some ⟨b, off, none⟩ → A' = some ⟨b, off + k * sz, none⟩) : Rds cf sz w A' (xs.drop k) := by
  intro i x hx
  rw [List.getElem?_drop] at hx
  obtain ⟨b, off, e, hb, hc⟩ := h (k + i) x hx
  refine ⟨b, off + k * sz, hA b off e, hb, fun j v hv => ?_⟩
  have := hc j v hv
  rw [Nat.add_mul] at this
  rwa [show off + k * sz + i * sz + j = off + (k * sz + i * sz) + j by omega]
end
def BxO (B : Nat) (o : Obj) (v : Value) (w : World) : Prop := ∃ g, v = .slice (some ⟨g, 0, none⟩) 1 1 ∧ B ≤ g ∧ w.heap[g]? = some o
section
variable {α : Type} {cf : α → List Value} {sz : Nat} {T : TypeId} {B n : Nat} {L : List α} {v : Value} {w w1 w2 : World} {row : Option Nat} {d : Int} {o : Obj}
theorem BxO.keep (h : BxO B o v w1) (hg : w1.grownBy w2 row) (hb : bkI v = none ∨ bkI v ≠ row) : BxO B o v w2 := by
  obtain ⟨g, rfl, hB, hh⟩ := h
  refine ⟨g, rfl, hB, (hg.block g (Fresh.lt hh) ?_).trans hh⟩
  rcases hb with hb | hb
  · cases hb
  · exact hb
theorem BxO.at_ (h : BxO B o v w) : ∀ b, bkI v = some b → B ≤ b ∧ b < w.heap.size := by
  obtain ⟨g, rfl, hB, hh⟩ := h
  intro b hb
  cases hb
  exact ⟨hB, Fresh.lt hh⟩
theorem Rds.ofBox {g : Nat} {y : α} (h : w.heap[g]? = some (.cells (cf y).toArray T (0, 0))) : Rds cf sz w (some ⟨g, 0, none⟩) [y] := by
  intro i x hx
  match i, hx with
  | 0, hx =>
    simp only [List.getElem?_cons_zero, Option.some.injEq] at hx
    subst hx
    exact ⟨g, 0, rfl, Fresh.lt h, fun j u hu => by rw [Fresh.cell h]; simpa using hu⟩
  | i + 1, hx => simp at hx
theorem bkI_hat {A A' : Option Addr} {n1 n2 c1 c2 : Nat} (hat : blkO A' = blkO A ∨ blkO A' = some w.heap.size) : bkI (.slice A' n1 c1) = none ∨ bkI (.slice A' n1 c1) = bkI (.slice A n2 c2) ∨ ∃ b, bkI (.slice A' n1 c1) = some b ∧ w.heap.size ≤ b := by
  rw [bkI_sl, bkI_sl]
  rcases hat with h | h
  · exact .inr (.inl h)
  · exact .inr (.inr ⟨_, h, Nat.le_refl _⟩)
end
section
variable {α : Type} {cf : α → List Value} {sz : Nat} {w : World} {A : Option Addr} {xs : List α} {cap B : Nat}
theorem wpList_pushesR {P : Program} {ops : Array Oper} {rest : List Oper} {o : Oper} {a : Act} {Q : Exit → Act → World → Prop} (hgd : o.guard = none) (s x : Operand) (t : TypeId)
    (ho : o.op = .call { callee := .builtin .append, args := #[s, x], argTypes := #[t, t] })
    (e : TypeId) (i : TypeInfo) (z : Value) (bytes : Nat) (ht : P.underlying t = some (.slice e)) (hi : P.info? e = some i) (hz : i.zero = some z)
    (hsize : i.size = sz) (hby : i.bytes = bytes) (hzs : z.cells.size = sz) (hsz : 0 < sz) (hcf : ∀ x, (cf x).length = sz) (hone : ∀ x, ∀ u ∈ cf x, u.oneCell' = true)
    (n : Nat) (hn : xs.length = n) (hs : a.eval s = .slice A n cap) (hF : FreshA cf sz e B w A cap xs)
    (ys : List α) (m : Nat) (hm : ys.length = m) (Ax : Option Addr) (c : Nat) (hx : a.eval x = .slice Ax m c) (hr : Rds cf sz w Ax ys)
    (h63 : n + m ≤ maxLen) (hbytes : (n + m) * bytes ≤ 140737488355328) (hbase : B ≤ w.heap.size)
    (h : ∀ A' cap' w', FreshA cf sz e B w' A' cap' (xs ++ ys) → w.grownBy w' (blkO A) → (blkO A' = blkO A ∨ blkO A' = some w.heap.size) → wpList P ops Q rest (a.put o.dst (.slice A' (n + m) cap')) w') : wpList P ops Q (o :: rest) a w :=
  wpList_plain hgd fun _ hK => wp_pushesR s x t ho e i z bytes ht hi hz hsize hby hzs hsz hcf hone n hn hs hF ys m hm Ax c hx hr h63 hbytes hbase fun A' cap' w' h1 h2 h3 => hK _ _ (h A' cap' w' h1 h2 h3)
end
theorem FreshA.capMax {α : Type} {cf : α → List Value} {sz : Nat} {T : TypeId} {w : World} {A : Option Addr} {xs : List α} {cap B : Nat} (h : FreshA cf sz T B w A cap xs) : cap ≤ maxLen := by
  rcases h with ⟨_, _, rfl⟩ | ⟨g, _, _, _, _, _, _, h, _⟩
  · exact Nat.zero_le _
  · exact h
theorem RQO_of {dst : Option Tmp} {ds : List Deferred} {G : Value → World → Prop} {a : Act} {w : World} (v : Value) (hd : a.defers = ds) (hv : gotV dst a = v) (hG : G v w) : RQO dst ds G .normal a w := ⟨rfl, hd, by rw [hv]; exact hG⟩
def DrO (AT : Option Addr) (n k c : Nat) (v : Value) (w : World) : Prop := ∃ A', v = .slice A' (n - k) c ∧ (k < n → A' = AT)
theorem Rds.dropW {α : Type} {cf : α → List Value} {sz : Nat} {w : World} {A AT A' : Option Addr} {xs : List α} (h : Rds cf sz w A xs) (k : Nat) (hA : ∀ b off, A = some ⟨b, off, none⟩ → AT = some ⟨b, off + k * sz, none⟩) (hk : k < xs.length → A' = AT) : Rds cf sz w A' (xs.drop k) := by
  by_cases hlt : k < xs.length
  · rw [hk hlt]; exact Rds.dropN h k AT hA
  · rw [List.drop_eq_nil_of_le (by omega)]; exact Rds.nil

end Go.Proofs.Ytfipmalomhflgaa
namespace Go.Proofs.Ytfipmalomhflgaa
set_option linter.unusedSimpArgs false
set_option linter.unusedVariables false
open Go.RowKit

theorem FreshA.set_at {α : Type} {cf : α → List Value} {sz : Nat} {T : TypeId} {B cap : Nat} {w : World} {A : Option Addr} {xs : List α} (h : FreshA cf sz T B w A cap xs) {p : Addr} (hp : ∀ a, A = some a → a.block ≠ p.block) (u : Value) : FreshA cf sz T B (w.setCell p u) A cap xs := by
  rcases h with h | ⟨g, hA, hB, h⟩
  · exact .inl h
  · exact .inr ⟨g, hA, hB, h.set_far (by have := hp _ hA; simpa using this) u⟩
def LiO (b : Nat) (n : Nat) (o : Obj) (v : Value) (w : World) : Prop := ∃ g, v = .slice (some ⟨g, 0, none⟩) n n ∧ b < g ∧ w.heap[g]? = some o
theorem LiO.keep {b n : Nat} {o : Obj} {v : Value} {w w' : World} (h : LiO b n o v w) (hg : w.grownBy w' (some b)) : LiO b n o v w' := by
  obtain ⟨g, rfl, hb, hh⟩ := h
  exact ⟨g, rfl, hb, (hg.block g (Fresh.lt hh) (by simp; omega)).trans hh⟩
def XO (lo hi : Int) (v : Value) (w : World) : Prop := ∃ x : Int, v = .int .i64 x ∧ lo ≤ x ∧ x ≤ hi
def QO {α : Type} (vf : α → Value) (v : Value) (w : World) : Prop := ∃ q : α, v = vf q
def BqO {α : Type} (b : Nat) (cf : α → List Value) (T : TypeId) (v : Value) (w : World) : Prop := ∃ (q : α) (g : Nat), v = .slice (some ⟨g, 0, none⟩) 1 1 ∧ b < g ∧ w.heap[g]? = some (.cells (cf q).toArray T (0, 0))
theorem BqO.keep {α : Type} {b : Nat} {cf : α → List Value} {T : TypeId} {v : Value} {w w' : World} (h : BqO b cf T v w) (hg : w.grownBy w' (some b)) : BqO b cf T v w' := by
  obtain ⟨q, g, rfl, hb, hh⟩ := h
  exact ⟨q, g, rfl, hb, (hg.block g (Fresh.lt hh) (by simp; omega)).trans hh⟩

theorem post_named {P : Program} {fn : Func} {R : Ending → World → Prop} {e : Exit} {a : Act} {w : World} (h : ∀ W, W = w → bodyPost P fn R e a W) : bodyPost P fn R e a w := h w rfl
theorem wlist_named {P : Program} {ops : Array Oper} {Q : Exit → Act → World → Prop} {l : List Oper} {a : Act} {w : World} (h : ∀ W, W = w → wpList P ops Q l a W) : wpList P ops Q l a w := h w rfl
theorem grownT2 {a W w' : World} {row : Option Nat} (h : a.grownBy W row) (hg : W.grownBy w' row) : a.grownBy w' row := grown_trans h hg
theorem FreshA.of_own1 {α : Type} {cf : α → List Value} {sz : Nat} {T : TypeId} {w : World} {g cap B : Nat} {xs : List α} (h : OwnS cf sz T w g cap xs) (hB : B ≤ g) : FreshA cf sz T B w (some ⟨g, 0, none⟩) cap xs := .inr ⟨g, rfl, hB, h⟩
theorem cellK_alloc {w : World} {o : Obj} {b i : Nat} {v : Value} (h : w.cell? ⟨b, i, none⟩ = some v) : (w.alloc o).cell? ⟨b, i, none⟩ = some v := by
  have hlt : b < w.heap.size := by
    rcases Nat.lt_or_ge b w.heap.size with hl | hl
    · exact hl
    · simp [World.cell?, Array.getElem?_eq_none hl] at h
  exact (((Below.refl w.heap.size w).alloc (Nat.le_refl _) o).cell (p := ⟨b, i, none⟩) hlt).trans h
theorem cellK_drew {w : World} {b i : Nat} {v : Value} (h : w.cell? ⟨b, i, none⟩ = some v) : w.drew.cell? ⟨b, i, none⟩ = some v := h
theorem cellK_set {w : World} {p : Addr} {u : Value} {b i : Nat} {v : Value} (h : w.cell? ⟨b, i, none⟩ = some v) (hne : p.block ≠ b ∨ p.off ≠ i) : (w.setCell p u).cell? ⟨b, i, none⟩ = some v := by
  rw [World.cell?_setCell_other _ _ _ _ (by intro e; subst e; simp at hne)]
  exact h
theorem frozK_alloc {w : World} {c : Array Value} {t : TypeId} {b : Nat} (h : ∀ o, w.frozen? ⟨b, o, none⟩ = false) : ∀ o, (w.alloc (.cells c t)).frozen? ⟨b, o, none⟩ = false := by
  intro o
  rw [frozAlloc]
  split
  · exact h o
  · split
    · rfl
    · rename_i h1 h2
      have : (w.alloc (.cells c t)).heap[b]? = none := Array.getElem?_eq_none (by simp; omega)
      simp [farz, World.frozen?, this]
theorem frozK_drew {w : World} {b : Nat} (h : ∀ o, w.frozen? ⟨b, o, none⟩ = false) : ∀ o, w.drew.frozen? ⟨b, o, none⟩ = false := h
theorem frozK_set {w : World} {p : Addr} {u : Value} {b : Nat} (h : ∀ o, w.frozen? ⟨b, o, none⟩ = false) : ∀ o, (w.setCell p u).frozen? ⟨b, o, none⟩ = false := by
  intro o
  have := h o
  simpa [go_sem] using this

end Go.Proofs.Ytfipmalomhflgaa
namespace Go.Proofs.Ytfipmalomhflgaa
set_option linter.unusedSimpArgs false
set_option linter.unusedVariables false
open Go.RowKit

set_option maxRecDepth 100000 in
set_option maxHeartbeats 4000000 in
theorem c_quay (b : Nat) (A : Option Addr) (cs : List Int) (cap : Nat) (m : Int) (w : World) (hcu : CurS w b A cs cap m) (hby : Bytes cs) (hm : 0 ≤ m ∧ m ≤ 800000000) (hl : cs.length ≤ 1000000000) :
    Calls Try.prog 71 #[.pointer (some ⟨b, 0, none⟩)] w fun e w' => ∃ x : Int, e = .returned (.int .i64 x) ∧ 0 ≤ x ∧ x ≤ 21 ∧ CurS w' b A cs cap (m + 2) ∧ w.grownBy w' (some b) := by
  have hlt0 := hcu.lt
  go_enter Try.func71, Try.ntmps71
  go_wp2_with (fail)
  refine calls_named ?_
  intro V1 hV
  have hkV1 : w.heap.size ≤ V1.heap.size := by rw [hV]; first | with_reducible exact Nat.le_refl _ | (simp [World.setCell]; done) | (simp; omega)
  have cu2 : CurS V1 b A cs cap (m) := by rw [hV]; (repeat' (first | with_reducible refine CurS.setc ?_ ?_ | with_reducible refine CurS.allo ?_ | with_reducible refine CurS.drw ?_ | with_reducible exact hcu | (dsimp only; omega) | (simp; done) | (simp; omega)))
  have gw3 : w.grownBy V1 (some b) := by rw [hV]; (repeat' (first | with_reducible exact World.grownBy.refl _ _ | fail | with_reducible refine grownA ?_ | with_reducible refine grownS ?_ ?_ | with_reducible refine grown_drew ?_ | (dsimp only; omega) | (simp; done) | omega))
  have hzgw3 := gw3.size
  have hlcu2 := cu2.lt
  have hlit : V1.heap[w.heap.size]? = some (.cells #[.int .i64 4, .int .i64 6, .int .i64 10, .int .i64 20, .int .i64 1, .int .i64 0, .int .i64 21] 3 (0, 0)) := by rw [hV]; first | exact heap_alloc_new _ _ | exact heapDrewAt (heap_alloc_new _ _)
  have hlw : w.heap.size < V1.heap.size := by rw [hV]; first | (simp; done) | (simp; omega)
  clear hV
  refine (c_pick b A cs cap (m) 60 _ cu2 hby (by omega) hl (by omega)).mono ?_
  rintro e W1 ⟨x, rfl, hxa, hxb, hcn, hg⟩
  have hlit2 := (hg.block w.heap.size hlw (by simp; omega)).trans hlit
  have hkW1 := hg.size
  have cu4 : CurS W1 b A cs cap (m + 1) := hcn
  have gw5 : w.grownBy W1 (some b) := grown_trans gw3 hg
  have hzgw5 := gw5.size
  have hlcu4 := cu4.lt
  clear cu2 gw3
  clear hg hlit
  have hx5 : Int.tdiv x 29 = 0 ∨ Int.tdiv x 29 = 1 ∨ Int.tdiv x 29 = 2 := by rw [Int.tdiv_eq_ediv_of_nonneg hxa]; omega
  rcases hx5 with hx5 | hx5 | hx5
  · go_wp2_with (fail)
    refine calls_named ?_
    intro V6 hV
    have hkV6 : W1.heap.size ≤ V6.heap.size := by rw [hV]; first | with_reducible exact Nat.le_refl _ | (simp [World.setCell]; done) | (simp; omega)
    have cu7 : CurS V6 b A cs cap (m + 1) := by rw [hV]; (repeat' (first | with_reducible refine CurS.setc ?_ ?_ | with_reducible refine CurS.allo ?_ | with_reducible refine CurS.drw ?_ | with_reducible exact cu4 | (dsimp only; omega) | (simp; done) | (simp; omega)))
    have gw8 : w.grownBy V6 (some b) := by rw [hV]; (repeat' (first | with_reducible exact World.grownBy.refl _ _ | with_reducible exact gw5 | with_reducible refine grownA ?_ | with_reducible refine grownS ?_ ?_ | with_reducible refine grown_drew ?_ | (dsimp only; omega) | (simp; done) | omega))
    have hzgw8 := gw8.size
    have hlcu7 := cu7.lt
    clear cu4 gw5
    have hlit3 : V6.heap[w.heap.size]? = some (.cells #[.int .i64 4, .int .i64 6, .int .i64 10, .int .i64 20, .int .i64 1, .int .i64 0, .int .i64 21] 3 (0, 0)) := by rw [hV]; first | exact hlit2 | exact heapDrewAt hlit2
    refine (c_among b A cs cap (m + 1) _ ([4, 6, 10, 20, 1] : List Int) _ (0) (21) _ cu7 hby (by omega) hl (Rds.of_block hlit3 (by intro i x h; rcases i with _ | _ | _ | _ | _ | i <;> simp at h ⊢ <;> first | exact h | omega)) (by simp) (by intro a ha; cases ha; simp; omega) (fun k hk => (show ∀ x ∈ ([4, 6, 10, 20, 1] : List Int), 0 ≤ x ∧ x ≤ 21 by intro x hx; simp at hx; omega) _ (List.getElem_mem hk))).mono ?_
    rintro e W10 ⟨dx9, rfl, hdx9a, hdx9b, hcn, hg⟩
    clear hV
    have hkW10 := hg.size
    have cu11 : CurS W10 b A cs cap (m + 1 + 1) := hcn
    have gw12 : w.grownBy W10 (some b) := grown_trans gw8 hg
    have hzgw12 := gw12.size
    have hlcu11 := cu11.lt
    clear cu7 gw8
    clear hg
    go_wp2_with (fail)
    go_ret
    exact ⟨dx9, rfl, by omega, by omega, CurS.mono (m := m + 1 + 1) (by (repeat' (first | with_reducible refine CurS.setc ?_ ?_ | with_reducible refine CurS.allo ?_ | with_reducible refine CurS.drw ?_ | with_reducible exact cu11 | (dsimp only; omega) | (simp; done) | (simp; omega)))) (by omega), by (repeat' (first | with_reducible exact World.grownBy.refl _ _ | with_reducible exact gw12 | with_reducible refine grownA ?_ | with_reducible refine grownS ?_ ?_ | with_reducible refine grown_drew ?_ | (dsimp only; omega) | (simp; done) | omega))⟩
  · go_wp2_with (fail)
    refine calls_named ?_
    intro V13 hV
    have hkV13 : W1.heap.size ≤ V13.heap.size := by rw [hV]; first | with_reducible exact Nat.le_refl _ | (simp [World.setCell]; done) | (simp; omega)
    have cu14 : CurS V13 b A cs cap (m + 1) := by rw [hV]; (repeat' (first | with_reducible refine CurS.setc ?_ ?_ | with_reducible refine CurS.allo ?_ | with_reducible refine CurS.drw ?_ | with_reducible exact cu4 | (dsimp only; omega) | (simp; done) | (simp; omega)))
    have gw15 : w.grownBy V13 (some b) := by rw [hV]; (repeat' (first | with_reducible exact World.grownBy.refl _ _ | with_reducible exact gw5 | with_reducible refine grownA ?_ | with_reducible refine grownS ?_ ?_ | with_reducible refine grown_drew ?_ | (dsimp only; omega) | (simp; done) | omega))
    have hzgw15 := gw15.size
    have hlcu14 := cu14.lt
    clear cu4 gw5
    have hlit3 : V13.heap[w.heap.size]? = some (.cells #[.int .i64 4, .int .i64 6, .int .i64 10, .int .i64 20, .int .i64 1, .int .i64 0, .int .i64 21] 3 (0, 0)) := by rw [hV]; first | exact hlit2 | exact heapDrewAt hlit2
    refine (c_among b A cs cap (m + 1) _ ([4, 6, 10, 20, 1, 0] : List Int) _ (0) (21) _ cu14 hby (by omega) hl (Rds.of_block hlit3 (by intro i x h; rcases i with _ | _ | _ | _ | _ | _ | i <;> simp at h ⊢ <;> first | exact h | omega)) (by simp) (by intro a ha; cases ha; simp; omega) (fun k hk => (show ∀ x ∈ ([4, 6, 10, 20, 1, 0] : List Int), 0 ≤ x ∧ x ≤ 21 by intro x hx; simp at hx; omega) _ (List.getElem_mem hk))).mono ?_
    rintro e W17 ⟨dx16, rfl, hdx16a, hdx16b, hcn, hg⟩
    clear hV
    have hkW17 := hg.size
    have cu18 : CurS W17 b A cs cap (m + 1 + 1) := hcn
    have gw19 : w.grownBy W17 (some b) := grown_trans gw15 hg
    have hzgw19 := gw19.size
    have hlcu18 := cu18.lt
    clear cu14 gw15
    clear hg
    go_wp2_with (fail)
    go_ret
    exact ⟨dx16, rfl, by omega, by omega, CurS.mono (m := m + 1 + 1) (by (repeat' (first | with_reducible refine CurS.setc ?_ ?_ | with_reducible refine CurS.allo ?_ | with_reducible refine CurS.drw ?_ | with_reducible exact cu18 | (dsimp only; omega) | (simp; done) | (simp; omega)))) (by omega), by (repeat' (first | with_reducible exact World.grownBy.refl _ _ | with_reducible exact gw19 | with_reducible refine grownA ?_ | with_reducible refine grownS ?_ ?_ | with_reducible refine grown_drew ?_ | (dsimp only; omega) | (simp; done) | omega))⟩
  · go_wp2_with (fail)
    refine calls_named ?_
    intro V20 hV
    have hkV20 : W1.heap.size ≤ V20.heap.size := by rw [hV]; first | with_reducible exact Nat.le_refl _ | (simp [World.setCell]; done) | (simp; omega)
    have cu21 : CurS V20 b A cs cap (m + 1) := by rw [hV]; (repeat' (first | with_reducible refine CurS.setc ?_ ?_ | with_reducible refine CurS.allo ?_ | with_reducible refine CurS.drw ?_ | with_reducible exact cu4 | (dsimp only; omega) | (simp; done) | (simp; omega)))
    have gw22 : w.grownBy V20 (some b) := by rw [hV]; (repeat' (first | with_reducible exact World.grownBy.refl _ _ | with_reducible exact gw5 | with_reducible refine grownA ?_ | with_reducible refine grownS ?_ ?_ | with_reducible refine grown_drew ?_ | (dsimp only; omega) | (simp; done) | omega))
    have hzgw22 := gw22.size
    have hlcu21 := cu21.lt
    clear cu4 gw5
    have hlit3 : V20.heap[w.heap.size]? = some (.cells #[.int .i64 4, .int .i64 6, .int .i64 10, .int .i64 20, .int .i64 1, .int .i64 0, .int .i64 21] 3 (0, 0)) := by rw [hV]; first | exact hlit2 | exact heapDrewAt hlit2
    refine (c_among b A cs cap (m + 1) _ ([4, 6, 10, 20, 1, 0, 21] : List Int) _ (0) (21) _ cu21 hby (by omega) hl (Rds.of_block hlit3 (by intro i x h; rcases i with _ | _ | _ | _ | _ | _ | _ | i <;> simp at h ⊢ <;> first | exact h | omega)) (by simp) (by intro a ha; cases ha; simp; omega) (fun k hk => (show ∀ x ∈ ([4, 6, 10, 20, 1, 0, 21] : List Int), 0 ≤ x ∧ x ≤ 21 by intro x hx; simp at hx; omega) _ (List.getElem_mem hk))).mono ?_
    rintro e W24 ⟨dx23, rfl, hdx23a, hdx23b, hcn, hg⟩
    clear hV
    have hkW24 := hg.size
    have cu25 : CurS W24 b A cs cap (m + 1 + 1) := hcn
    have gw26 : w.grownBy W24 (some b) := grown_trans gw22 hg
    have hzgw26 := gw26.size
    have hlcu25 := cu25.lt
    clear cu21 gw22
    clear hg
    go_wp2_with (fail)
    go_ret
    exact ⟨dx23, rfl, by omega, by omega, CurS.mono (m := m + 1 + 1) (by (repeat' (first | with_reducible refine CurS.setc ?_ ?_ | with_reducible refine CurS.allo ?_ | with_reducible refine CurS.drw ?_ | with_reducible exact cu25 | (dsimp only; omega) | (simp; done) | (simp; omega)))) (by omega), by (repeat' (first | with_reducible exact World.grownBy.refl _ _ | with_reducible exact gw26 | with_reducible refine grownA ?_ | with_reducible refine grownS ?_ ?_ | with_reducible refine grown_drew ?_ | (dsimp only; omega) | (simp; done) | omega))⟩

set_option maxRecDepth 100000 in
set_option maxHeartbeats 4000000 in
theorem c_hour16 (b : Nat) (A : Option Addr) (cs : List Int) (cap : Nat) (m : Int) (w : World) (hcu : CurS w b A cs cap m) (hby : Bytes cs) (hm : 0 ≤ m ∧ m ≤ 800000000) (hl : cs.length ≤ 1000000000) :
    Calls Try.prog 77 #[.pointer (some ⟨b, 0, none⟩)] w fun e w' => ∃ x : Int, e = .returned (.int .i64 x) ∧ -1 ≤ x ∧ x ≤ 500 ∧ CurS w' b A cs cap (m + 2) ∧ w.grownBy w' (some b) := by
  have hlt0 := hcu.lt
  go_enter Try.func77, Try.ntmps77
  go_wp2_with (fail)
  refine calls_named ?_
  intro V27 hV
  have hkV27 : w.heap.size ≤ V27.heap.size := by rw [hV]; first | with_reducible exact Nat.le_refl _ | (simp [World.setCell]; done) | (simp; omega)
  have cu28 : CurS V27 b A cs cap (m) := by rw [hV]; (repeat' (first | with_reducible refine CurS.setc ?_ ?_ | with_reducible refine CurS.allo ?_ | with_reducible refine CurS.drw ?_ | with_reducible exact hcu | (dsimp only; omega) | (simp; done) | (simp; omega)))
  have gw29 : w.grownBy V27 (some b) := by rw [hV]; (repeat' (first | with_reducible exact World.grownBy.refl _ _ | fail | with_reducible refine grownA ?_ | with_reducible refine grownS ?_ ?_ | with_reducible refine grown_drew ?_ | (dsimp only; omega) | (simp; done) | omega))
  have hzgw29 := gw29.size
  have hlcu28 := cu28.lt
  have hlit : V27.heap[w.heap.size]? = some (.cells #[.int .i64 0, .int .i64 2, .int .i64 5, .int .i64 9, .int .i64 12, .int .i64 499, .int .i64 (-1), .int .i64 500] 3 (0, 0)) := by rw [hV]; first | exact heap_alloc_new _ _ | exact heapDrewAt (heap_alloc_new _ _)
  have hlw : w.heap.size < V27.heap.size := by rw [hV]; first | (simp; done) | (simp; omega)
  clear hV
  refine (c_pick b A cs cap (m) 24 _ cu28 hby (by omega) hl (by omega)).mono ?_
  rintro e W1 ⟨x, rfl, hxa, hxb, hcn, hg⟩
  have hlit2 := (hg.block w.heap.size hlw (by simp; omega)).trans hlit
  have hkW1 := hg.size
  have cu30 : CurS W1 b A cs cap (m + 1) := hcn
  have gw31 : w.grownBy W1 (some b) := grown_trans gw29 hg
  have hzgw31 := gw31.size
  have hlcu30 := cu30.lt
  clear cu28 gw29
  clear hg hlit
  have hx5 : Int.tdiv x 11 = 0 ∨ Int.tdiv x 11 = 1 ∨ Int.tdiv x 11 = 2 := by rw [Int.tdiv_eq_ediv_of_nonneg hxa]; omega
  rcases hx5 with hx5 | hx5 | hx5
  · go_wp2_with (fail)
    refine calls_named ?_
    intro V32 hV
    have hkV32 : W1.heap.size ≤ V32.heap.size := by rw [hV]; first | with_reducible exact Nat.le_refl _ | (simp [World.setCell]; done) | (simp; omega)
    have cu33 : CurS V32 b A cs cap (m + 1) := by rw [hV]; (repeat' (first | with_reducible refine CurS.setc ?_ ?_ | with_reducible refine CurS.allo ?_ | with_reducible refine CurS.drw ?_ | with_reducible exact cu30 | (dsimp only; omega) | (simp; done) | (simp; omega)))
    have gw34 : w.grownBy V32 (some b) := by rw [hV]; (repeat' (first | with_reducible exact World.grownBy.refl _ _ | with_reducible exact gw31 | with_reducible refine grownA ?_ | with_reducible refine grownS ?_ ?_ | with_reducible refine grown_drew ?_ | (dsimp only; omega) | (simp; done) | omega))
    have hzgw34 := gw34.size
    have hlcu33 := cu33.lt
    clear cu30 gw31
    have hlit3 : V32.heap[w.heap.size]? = some (.cells #[.int .i64 0, .int .i64 2, .int .i64 5, .int .i64 9, .int .i64 12, .int .i64 499, .int .i64 (-1), .int .i64 500] 3 (0, 0)) := by rw [hV]; first | exact hlit2 | exact heapDrewAt hlit2
    refine (c_among b A cs cap (m + 1) _ ([0, 2, 5, 9, 12, 499] : List Int) _ (-1) (500) _ cu33 hby (by omega) hl (Rds.of_block hlit3 (by intro i x h; rcases i with _ | _ | _ | _ | _ | _ | i <;> simp at h ⊢ <;> first | exact h | omega)) (by simp) (by intro a ha; cases ha; simp; omega) (fun k hk => (show ∀ x ∈ ([0, 2, 5, 9, 12, 499] : List Int), -1 ≤ x ∧ x ≤ 500 by intro x hx; simp at hx; omega) _ (List.getElem_mem hk))).mono ?_
    rintro e W36 ⟨dx35, rfl, hdx35a, hdx35b, hcn, hg⟩
    clear hV
    have hkW36 := hg.size
    have cu37 : CurS W36 b A cs cap (m + 1 + 1) := hcn
    have gw38 : w.grownBy W36 (some b) := grown_trans gw34 hg
    have hzgw38 := gw38.size
    have hlcu37 := cu37.lt
    clear cu33 gw34
    clear hg
    go_wp2_with (fail)
    go_ret
    exact ⟨dx35, rfl, by omega, by omega, CurS.mono (m := m + 1 + 1) (by (repeat' (first | with_reducible refine CurS.setc ?_ ?_ | with_reducible refine CurS.allo ?_ | with_reducible refine CurS.drw ?_ | with_reducible exact cu37 | (dsimp only; omega) | (simp; done) | (simp; omega)))) (by omega), by (repeat' (first | with_reducible exact World.grownBy.refl _ _ | with_reducible exact gw38 | with_reducible refine grownA ?_ | with_reducible refine grownS ?_ ?_ | with_reducible refine grown_drew ?_ | (dsimp only; omega) | (simp; done) | omega))⟩
  · go_wp2_with (fail)
    refine calls_named ?_
    intro V39 hV
    have hkV39 : W1.heap.size ≤ V39.heap.size := by rw [hV]; first | with_reducible exact Nat.le_refl _ | (simp [World.setCell]; done) | (simp; omega)
    have cu40 : CurS V39 b A cs cap (m + 1) := by rw [hV]; (repeat' (first | with_reducible refine CurS.setc ?_ ?_ | with_reducible refine CurS.allo ?_ | with_reducible refine CurS.drw ?_ | with_reducible exact cu30 | (dsimp only; omega) | (simp; done) | (simp; omega)))
    have gw41 : w.grownBy V39 (some b) := by rw [hV]; (repeat' (first | with_reducible exact World.grownBy.refl _ _ | with_reducible exact gw31 | with_reducible refine grownA ?_ | with_reducible refine grownS ?_ ?_ | with_reducible refine grown_drew ?_ | (dsimp only; omega) | (simp; done) | omega))
    have hzgw41 := gw41.size
    have hlcu40 := cu40.lt
    clear cu30 gw31
    have hlit3 : V39.heap[w.heap.size]? = some (.cells #[.int .i64 0, .int .i64 2, .int .i64 5, .int .i64 9, .int .i64 12, .int .i64 499, .int .i64 (-1), .int .i64 500] 3 (0, 0)) := by rw [hV]; first | exact hlit2 | exact heapDrewAt hlit2
    refine (c_among b A cs cap (m + 1) _ ([0, 2, 5, 9, 12, 499, -1] : List Int) _ (-1) (500) _ cu40 hby (by omega) hl (Rds.of_block hlit3 (by intro i x h; rcases i with _ | _ | _ | _ | _ | _ | _ | i <;> simp at h ⊢ <;> first | exact h | omega)) (by simp) (by intro a ha; cases ha; simp; omega) (fun k hk => (show ∀ x ∈ ([0, 2, 5, 9, 12, 499, -1] : List Int), -1 ≤ x ∧ x ≤ 500 by intro x hx; simp at hx; omega) _ (List.getElem_mem hk))).mono ?_
    rintro e W43 ⟨dx42, rfl, hdx42a, hdx42b, hcn, hg⟩
    clear hV
    have hkW43 := hg.size
    have cu44 : CurS W43 b A cs cap (m + 1 + 1) := hcn
    have gw45 : w.grownBy W43 (some b) := grown_trans gw41 hg
    have hzgw45 := gw45.size
    have hlcu44 := cu44.lt
    clear cu40 gw41
    clear hg
    go_wp2_with (fail)
    go_ret
    exact ⟨dx42, rfl, by omega, by omega, CurS.mono (m := m + 1 + 1) (by (repeat' (first | with_reducible refine CurS.setc ?_ ?_ | with_reducible refine CurS.allo ?_ | with_reducible refine CurS.drw ?_ | with_reducible exact cu44 | (dsimp only; omega) | (simp; done) | (simp; omega)))) (by omega), by (repeat' (first | with_reducible exact World.grownBy.refl _ _ | with_reducible exact gw45 | with_reducible refine grownA ?_ | with_reducible refine grownS ?_ ?_ | with_reducible refine grown_drew ?_ | (dsimp only; omega) | (simp; done) | omega))⟩
  · go_wp2_with (fail)
    refine calls_named ?_
    intro V46 hV
    have hkV46 : W1.heap.size ≤ V46.heap.size := by rw [hV]; first | with_reducible exact Nat.le_refl _ | (simp [World.setCell]; done) | (simp; omega)
    have cu47 : CurS V46 b A cs cap (m + 1) := by rw [hV]; (repeat' (first | with_reducible refine CurS.setc ?_ ?_ | with_reducible refine CurS.allo ?_ | with_reducible refine CurS.drw ?_ | with_reducible exact cu30 | (dsimp only; omega) | (simp; done) | (simp; omega)))
    have gw48 : w.grownBy V46 (some b) := by rw [hV]; (repeat' (first | with_reducible exact World.grownBy.refl _ _ | with_reducible exact gw31 | with_reducible refine grownA ?_ | with_reducible refine grownS ?_ ?_ | with_reducible refine grown_drew ?_ | (dsimp only; omega) | (simp; done) | omega))
    have hzgw48 := gw48.size
    have hlcu47 := cu47.lt
    clear cu30 gw31
    have hlit3 : V46.heap[w.heap.size]? = some (.cells #[.int .i64 0, .int .i64 2, .int .i64 5, .int .i64 9, .int .i64 12, .int .i64 499, .int .i64 (-1), .int .i64 500] 3 (0, 0)) := by rw [hV]; first | exact hlit2 | exact heapDrewAt hlit2
    refine (c_among b A cs cap (m + 1) _ ([0, 2, 5, 9, 12, 499, -1, 500] : List Int) _ (-1) (500) _ cu47 hby (by omega) hl (Rds.of_block hlit3 (by intro i x h; rcases i with _ | _ | _ | _ | _ | _ | _ | _ | i <;> simp at h ⊢ <;> first | exact h | omega)) (by simp) (by intro a ha; cases ha; simp; omega) (fun k hk => (show ∀ x ∈ ([0, 2, 5, 9, 12, 499, -1, 500] : List Int), -1 ≤ x ∧ x ≤ 500 by intro x hx; simp at hx; omega) _ (List.getElem_mem hk))).mono ?_
    rintro e W50 ⟨dx49, rfl, hdx49a, hdx49b, hcn, hg⟩
    clear hV
    have hkW50 := hg.size
    have cu51 : CurS W50 b A cs cap (m + 1 + 1) := hcn
    have gw52 : w.grownBy W50 (some b) := grown_trans gw48 hg
    have hzgw52 := gw52.size
    have hlcu51 := cu51.lt
    clear cu47 gw48
    clear hg
    go_wp2_with (fail)
    go_ret
    exact ⟨dx49, rfl, by omega, by omega, CurS.mono (m := m + 1 + 1) (by (repeat' (first | with_reducible refine CurS.setc ?_ ?_ | with_reducible refine CurS.allo ?_ | with_reducible refine CurS.drw ?_ | with_reducible exact cu51 | (dsimp only; omega) | (simp; done) | (simp; omega)))) (by omega), by (repeat' (first | with_reducible exact World.grownBy.refl _ _ | with_reducible exact gw52 | with_reducible refine grownA ?_ | with_reducible refine grownS ?_ ?_ | with_reducible refine grown_drew ?_ | (dsimp only; omega) | (simp; done) | omega))⟩

end Go.Proofs.Ytfipmalomhflgaa
