import Derived.Test.YtfipmalomhflgaaQY05
import Derived.Test.YtfipmalomhflgaaQY00
import Derived.Deep.Upon
namespace Go.Proofs.Ytfipmalomhflgaa
set_option linter.unusedSimpArgs false
set_option linter.unusedVariables false
open Go.RowKit

/-- the block of a value of the insertion's region -/
def bkI : Value → Option Nat
  | .pointer (some a) => some a.block
  | .slice (some a) _ _ => some a.block
  | .agg #[_, .slice (some a) _ _] => some a.block
  | _ => none
def SlO {α : Type} (cf : α → List Value) (sz : Nat) (T : TypeId) (B : Nat) (L : List α) (n : Nat) (v : Value) (w : World) : Prop := ∃ A cap, v = .slice A n cap ∧ FreshA cf sz T B w A cap L
def AgO {α : Type} (d : Int) (cf : α → List Value) (sz : Nat) (T : TypeId) (B : Nat) (L : List α) (n : Nat) (v : Value) (w : World) : Prop := ∃ A cap, v = .agg #[.int .i64 d, .slice A n cap] ∧ FreshA cf sz T B w A cap L
def ObO (B : Nat) (o : Obj) (v : Value) (w : World) : Prop := ∃ g, v = .pointer (some ⟨g, 0, none⟩) ∧ B ≤ g ∧ w.heap[g]? = some o
section
variable {α : Type} {cf : α → List Value} {sz : Nat} {T : TypeId} {B n : Nat} {L : List α} {v : Value} {w w1 w2 : World} {row : Option Nat} {d : Int} {o : Obj}
theorem bkI_sl {A : Option Addr} {m c : Nat} : bkI (.slice A m c) = blkO A := by cases A <;> rfl
theorem bkI_ag {A : Option Addr} {m c : Nat} : bkI (.agg #[.int .i64 d, .slice A m c]) = blkO A := by cases A <;> rfl
theorem ne_row {A : Option Addr} (h : blkO A = none ∨ blkO A ≠ row) : ∀ a, A = some a → some a.block ≠ row := by
  intro a ha
  subst ha
  rcases h with h | h
  · cases h
  · exact h
theorem SlO.keep (h : SlO cf sz T B L n v w1) (hg : w1.grownBy w2 row) (hb : bkI v = none ∨ bkI v ≠ row) : SlO cf sz T B L n v w2 := by
  obtain ⟨A, cap, rfl, hF⟩ := h
  rw [bkI_sl] at hb
  exact ⟨A, cap, rfl, hF.grown hg (ne_row hb)⟩
theorem AgO.keep (h : AgO d cf sz T B L n v w1) (hg : w1.grownBy w2 row) (hb : bkI v = none ∨ bkI v ≠ row) : AgO d cf sz T B L n v w2 := by
  obtain ⟨A, cap, rfl, hF⟩ := h
  rw [bkI_ag] at hb
  exact ⟨A, cap, rfl, hF.grown hg (ne_row hb)⟩
theorem ObO.keep (h : ObO B o v w1) (hg : w1.grownBy w2 row) (hb : bkI v = none ∨ bkI v ≠ row) : ObO B o v w2 := by
  obtain ⟨g, rfl, hB, hh⟩ := h
  refine ⟨g, rfl, hB, (hg.block g (Fresh.lt hh) ?_).trans hh⟩
  rcases hb with hb | hb
  · cases hb
  · exact hb
theorem fresh_at {A : Option Addr} {cap : Nat} (hF : FreshA cf sz T B w A cap L) : ∀ b, blkO A = some b → B ≤ b ∧ b < w.heap.size := by
  intro b hb
  cases A with
  | none => cases hb
  | some a =>
    simp only [blkO, Option.map_some, Option.some.injEq] at hb
    subst hb
    exact ⟨hF.lo a rfl, hF.hi a rfl⟩
theorem SlO.at_ (h : SlO cf sz T B L n v w) : ∀ b, bkI v = some b → B ≤ b ∧ b < w.heap.size := by
  obtain ⟨A, cap, rfl, hF⟩ := h
  rw [bkI_sl]
  exact fresh_at hF
theorem AgO.at_ (h : AgO d cf sz T B L n v w) : ∀ b, bkI v = some b → B ≤ b ∧ b < w.heap.size := by
  obtain ⟨A, cap, rfl, hF⟩ := h
  rw [bkI_ag]
  exact fresh_at hF
theorem ObO.at_ (h : ObO B o v w) : ∀ b, bkI v = some b → B ≤ b ∧ b < w.heap.size := by
  obtain ⟨g, rfl, hB, hh⟩ := h
  intro b hb
  cases hb
  exact ⟨hB, Fresh.lt hh⟩
end
section
variable {α : Type} {cf : α → List Value} {sz : Nat} {T : TypeId} {w w' : World} {A : Option Addr} {xs : List α} {g cap B : Nat}
theorem FreshA.capLe (h : FreshA cf sz T B w A cap xs) : xs.length ≤ cap := by
  rcases h with ⟨_, rfl, rfl⟩ | ⟨g, _, _, _, _, _, h, _⟩
  · exact Nat.le_refl _
  · exact h
/-- 'append(s, ys...)' on a slice of the call's own, of whatever reads as ys -/
theorem wp_pushesR {P : Program} {o : Oper} {a : Act} {K : Act → World → Prop} {Q : Exit → Act → World → Prop} (s x : Operand) (t : TypeId)
    (ho : o.op = .call { callee := .builtin .append, args := #[s, x], argTypes := #[t, t] })
    (e : TypeId) (i : TypeInfo) (z : Value) (bytes : Nat) (ht : P.underlying t = some (.slice e)) (hi : P.info? e = some i) (hz : i.zero = some z)
    (hsize : i.size = sz) (hby : i.bytes = bytes) (hzs : z.cells.size = sz) (hsz : 0 < sz) (hcf : ∀ x, (cf x).length = sz) (hone : ∀ x, ∀ u ∈ cf x, u.oneCell' = true)
    (n : Nat) (hn : xs.length = n) (hs : a.eval s = .slice A n cap) (hF : FreshA cf sz e B w A cap xs)
    (ys : List α) (m : Nat) (hm : ys.length = m) (Ax : Option Addr) (c : Nat) (hx : a.eval x = .slice Ax m c) (hr : Rds cf sz w Ax ys)
    (h63 : n + m ≤ maxLen) (hbytes : (n + m) * bytes ≤ 140737488355328) (hbase : B ≤ w.heap.size)
    (h : ∀ A' cap' w', FreshA cf sz e B w' A' cap' (xs ++ ys) → w.grownBy w' (blkO A) → (blkO A' = blkO A ∨ blkO A' = some w.heap.size) → K (a.put o.dst (.slice A' (n + m) cap')) w') : o.wp P a w K Q := by
  by_cases h0 : ys.length = 0
  · obtain rfl := List.eq_nil_of_length_eq_zero h0
    subst hn
    simp only [List.length_nil] at hm
    subst hm
    have hsrc : Src P i.size t (.slice Ax 0 c) 0 [] w := by
      cases Ax with
      | none => exact Src.ofNil w ht c
      | some q => exact Src.ofSlice w ht q 0 c [] (by simp) (fun j u hj => by simp at hj) (fun u hu => by cases hu)
    have hrun := run_append_nothing (P := P) w t t o.type e i ht hi A xs.length cap hF.capLe (.slice Ax 0 c) hsrc
    unfold Oper.wp execOp
    simp only [ho, resolve, invoke, builtin, Sem.run_bind, Sem.run_pure, Result.andThen_ok, List.map_toArray, List.map_cons, List.map_nil, hs, hx, hrun]
    exact h A cap w (by simpa using hF) (World.grownBy.refl _ _) (.inl rfl)
  · obtain ⟨b, off, rfl, hb, hc⟩ := Rds.all hr (by omega)
    exact wp_pushes s x t ho e i z bytes ht hi hz hsize hby hzs hsz hcf hone n hn hs hF ys m hm b off c hx hc h63 hbytes hbase h
theorem Rds.takeN (h : Rds cf sz w A xs) (k : Nat) : Rds cf sz w A (xs.take k) := by
  intro i x hx
  refine h i x ?_
  rw [List.getElem?_take] at hx
  split at hx
  · exact hx
  · cases hx
theorem Rds.dropN (h : Rds cf sz w A xs) (k : Nat) (A' : Option Addr) (hA : ∀ b off, A = some ⟨b, off, none⟩ → A' = some ⟨b, off + k * sz, none⟩) : Rds cf sz w A' (xs.drop k) := by
  intro i x hx
  rw [List.getElem?_drop] at hx
  obtain ⟨b, off, e, hb, hc⟩ := h (k + i) x hx
  refine ⟨b, off + k * sz, hA b off e, hb, fun j v hv => ?_⟩
  have := hc j v hv
  rw [Nat.add_mul] at this
  rwa [show off + k * sz + i * sz + j = off + (k * sz + i * sz) + j by omega]
end
def BxO (B : Nat) (o : Obj) (v : Value) (w : World) : Prop := ∃ g, v = .slice (some ⟨g, 0, none⟩) 1 1 ∧ B ≤ g ∧ w.heap[g]? = some o
section
variable {α : Type} {cf : α → List Value} {sz : Nat} {T : TypeId} {B n : Nat} {L : List α} {v : Value} {w w1 w2 : World} {row : Option Nat} {d : Int} {o : Obj}
theorem BxO.keep (h : BxO B o v w1) (hg : w1.grownBy w2 row) (hb : bkI v = none ∨ bkI v ≠ row) : BxO B o v w2 := by
  obtain ⟨g, rfl, hB, hh⟩ := h
  refine ⟨g, rfl, hB, (hg.block g (Fresh.lt hh) ?_).trans hh⟩
  rcases hb with hb | hb
  · cases hb
  · exact hb
theorem BxO.at_ (h : BxO B o v w) : ∀ b, bkI v = some b → B ≤ b ∧ b < w.heap.size := by
  obtain ⟨g, rfl, hB, hh⟩ := h
  intro b hb
  cases hb
  exact ⟨hB, Fresh.lt hh⟩
theorem Rds.ofBox {g : Nat} {y : α} (h : w.heap[g]? = some (.cells (cf y).toArray T (0, 0))) : Rds cf sz w (some ⟨g, 0, none⟩) [y] := by
  intro i x hx
  match i, hx with
  | 0, hx =>
    simp only [List.getElem?_cons_zero, Option.some.injEq] at hx
    subst hx
    exact ⟨g, 0, rfl, Fresh.lt h, fun j u hu => by rw [Fresh.cell h]; simpa using hu⟩
  | i + 1, hx => simp at hx
theorem bkI_hat {A A' : Option Addr} {n1 n2 c1 c2 : Nat} (hat : blkO A' = blkO A ∨ blkO A' = some w.heap.size) : bkI (.slice A' n1 c1) = none ∨ bkI (.slice A' n1 c1) = bkI (.slice A n2 c2) ∨ ∃ b, bkI (.slice A' n1 c1) = some b ∧ w.heap.size ≤ b := by
  rw [bkI_sl, bkI_sl]
  rcases hat with h | h
  · exact .inr (.inl h)
  · exact .inr (.inr ⟨_, h, Nat.le_refl _⟩)
end
section
variable {α : Type} {cf : α → List Value} {sz : Nat} {w : World} {A : Option Addr} {xs : List α} {cap B : Nat}
theorem wpList_pushesR {P : Program} {ops : Array Oper} {rest : List Oper} {o : Oper} {a : Act} {Q : Exit → Act → World → Prop} (hgd : o.guard = none) (s x : Operand) (t : TypeId)
    (ho : o.op = .call { callee := .builtin .append, args := #[s, x], argTypes := #[t, t] })
    (e : TypeId) (i : TypeInfo) (z : Value) (bytes : Nat) (ht : P.underlying t = some (.slice e)) (hi : P.info? e = some i) (hz : i.zero = some z)
    (hsize : i.size = sz) (hby : i.bytes = bytes) (hzs : z.cells.size = sz) (hsz : 0 < sz) (hcf : ∀ x, (cf x).length = sz) (hone : ∀ x, ∀ u ∈ cf x, u.oneCell' = true)
    (n : Nat) (hn : xs.length = n) (hs : a.eval s = .slice A n cap) (hF : FreshA cf sz e B w A cap xs)
    (ys : List α) (m : Nat) (hm : ys.length = m) (Ax : Option Addr) (c : Nat) (hx : a.eval x = .slice Ax m c) (hr : Rds cf sz w Ax ys)
    (h63 : n + m ≤ maxLen) (hbytes : (n + m) * bytes ≤ 140737488355328) (hbase : B ≤ w.heap.size)
    (h : ∀ A' cap' w', FreshA cf sz e B w' A' cap' (xs ++ ys) → w.grownBy w' (blkO A) → (blkO A' = blkO A ∨ blkO A' = some w.heap.size) → wpList P ops Q rest (a.put o.dst (.slice A' (n + m) cap')) w') : wpList P ops Q (o :: rest) a w :=
  wpList_plain hgd fun _ hK => wp_pushesR s x t ho e i z bytes ht hi hz hsize hby hzs hsz hcf hone n hn hs hF ys m hm Ax c hx hr h63 hbytes hbase fun A' cap' w' h1 h2 h3 => hK _ _ (h A' cap' w' h1 h2 h3)
end
theorem FreshA.capMax {α : Type} {cf : α → List Value} {sz : Nat} {T : TypeId} {w : World} {A : Option Addr} {xs : List α} {cap B : Nat} (h : FreshA cf sz T B w A cap xs) : cap ≤ maxLen := by
  rcases h with ⟨_, _, rfl⟩ | ⟨g, _, _, _, _, _, _, h, _⟩
  · exact Nat.zero_le _
  · exact h
theorem RQO_of {dst : Option Tmp} {ds : List Deferred} {G : Value → World → Prop} {a : Act} {w : World} (v : Value) (hd : a.defers = ds) (hv : gotV dst a = v) (hG : G v w) : RQO dst ds G .normal a w := ⟨rfl, hd, by rw [hv]; exact hG⟩
def DrO (AT : Option Addr) (n k c : Nat) (v : Value) (w : World) : Prop := ∃ A', v = .slice A' (n - k) c ∧ (k < n → A' = AT)
theorem Rds.dropW {α : Type} {cf : α → List Value} {sz : Nat} {w : World} {A AT A' : Option Addr} {xs : List α} (h : Rds cf sz w A xs) (k : Nat) (hA : ∀ b off, A = some ⟨b, off, none⟩ → AT = some ⟨b, off + k * sz, none⟩) (hk : k < xs.length → A' = AT) : Rds cf sz w A' (xs.drop k) := by
  by_cases hlt : k < xs.length
  · rw [hk hlt]; exact Rds.dropN h k AT hA
  · rw [List.drop_eq_nil_of_le (by omega)]; exact Rds.nil

end Go.Proofs.Ytfipmalomhflgaa
