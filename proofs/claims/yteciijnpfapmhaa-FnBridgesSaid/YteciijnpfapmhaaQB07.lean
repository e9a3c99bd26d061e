import Derived.Test.YteciijnpfapmhaaQB06
import Derived.Test.YteciijnpfapmhaaQB00
import Derived.Deep.Upon
import Derived.Test.YteciijnpfapmhaaQB03
namespace Go.Proofs.Yteciijnpfapmhaa
set_option linter.unusedSimpArgs false
set_option linter.unusedVariables false
open Go.RowKit

/-- the block of a value of the insertion's region -/
def bkI : Value → Option Nat
 | .pointer (some a) => some a.block
 | .slice (some a) _ _ => some a.block
 | .agg #[_, .slice (some a) _ _] => some a.block
 | _ => none
def SlO {α : Type} (cf : α → List Value) (sz : Nat) (T : TypeId) (B : Nat) (L : List α) (n : Nat) (v : Value) (w : World) : Prop := ∃ A cap, v = .slice A n cap ∧ FreshA cf sz T B w A cap L
def AgO {α : Type} (d : Int) (cf : α → List Value) (sz : Nat) (T : TypeId) (B : Nat) (L : List α) (n : Nat) (v : Value) (w : World) : Prop := ∃ A cap, v = .agg #[.int .i64 d, .slice A n cap] ∧ FreshA cf sz T B w A cap L
def ObO (B : Nat) (o : Obj) (v : Value) (w : World) : Prop := ∃ g, v = .pointer (some ⟨g, 0, none⟩) ∧ B ≤ g ∧ w.heap[g]? = some o
section
variable {α : Type} {cf : α → List Value} {sz : Nat} {T : TypeId} {B n : Nat} {L : List α} {v : Value} {w w1 w2 : World} {row : Option Nat} {d : Int} {o : Obj}
theorem bkI_sl {A : Option Addr} {m c : Nat} : bkI (.slice A m c) = blkO A := by cases A <;> rfl
theorem bkI_ag {A : Option Addr} {m c : Nat} : bkI (.agg #[.int .i64 d, .slice A m c]) = blkO A := by cases A <;> rfl
theorem ne_row {A : Option Addr} (h : blkO A = none ∨ blkO A ≠ row) : ∀ a, A = some a → some a.block ≠ row := by
 intro a ha
 subst ha
 rcases h with h | h
 ·cases h
 ·exact h
theorem SlO.keep (h : SlO cf sz T B L n v w1) (hg : w1.grownBy w2 row) (hb : bkI v = none ∨ bkI v ≠ row) : SlO cf sz T B L n v w2 := by
 obtain ⟨A, cap, rfl, hF⟩ := h
 rw [bkI_sl] at hb
 exact ⟨A, cap, rfl, hF.grown hg (ne_row hb)⟩
theorem AgO.keep (h : AgO d cf sz T B L n v w1) (hg : w1.grownBy w2 row) (hb : bkI v = none ∨ bkI v ≠ row) : AgO d cf sz T B L n v w2 := by
 obtain ⟨A, cap, rfl, hF⟩ := h
 rw [bkI_ag] at hb
 exact ⟨A, cap, rfl, hF.grown hg (ne_row hb)⟩
theorem ObO.keep (h : ObO B o v w1) (hg : w1.grownBy w2 row) (hb : bkI v = none ∨ bkI v ≠ row) : ObO B o v w2 := by
 obtain ⟨g, rfl, hB, hh⟩ := h
 refine ⟨g, rfl, hB, (hg.block g (Fresh.lt hh) ?_).trans hh⟩
 rcases hb with hb | hb
 ·cases hb
 ·exact hb
theorem fresh_at {A : Option Addr} {cap : Nat} (hF : FreshA cf sz T B w A cap L) : ∀ b, blkO A = some b → B ≤ b ∧ b < w.heap.size := by
 intro b hb
 cases A with
 | none => cases hb
 | some a =>
  simp only [blkO, Option.map_some, Option.some.injEq] at hb
  subst hb
  exact ⟨hF.lo a rfl, hF.hi a rfl⟩
theorem SlO.at_ (h : SlO cf sz T B L n v w) : ∀ b, bkI v = some b → B ≤ b ∧ b < w.heap.size := by
 obtain ⟨A, cap, rfl, hF⟩ := h
 rw [bkI_sl]
 exact fresh_at hF
theorem AgO.at_ (h : AgO d cf sz T B L n v w) : ∀ b, bkI v = some b → B ≤ b ∧ b < w.heap.size := by
 obtain ⟨A, cap, rfl, hF⟩ := h
 rw [bkI_ag]
 exact fresh_at hF
theorem ObO.at_ (h : ObO B o v w) : ∀ b, bkI v = some b → B ≤ b ∧ b < w.heap.size := by
 obtain ⟨g, rfl, hB, hh⟩ := h
 intro b hb
 cases hb
 exact ⟨hB, Fresh.lt hh⟩
end
section
variable {α : Type} {cf : α → List Value} {sz : Nat} {T : TypeId} {w w' : World} {A : Option Addr} {xs : List α} {g cap B : Nat}
theorem FreshA.capLe (h : FreshA cf sz T B w A cap xs) : xs.length ≤ cap := by
 rcases h with ⟨_, rfl, rfl⟩ | ⟨g, _, _, _, _, _, h, _⟩
 ·exact Nat.le_refl _
 ·exact h
/-- 'append(s, ys...)' on a slice of the call's own, of whatever reads as ys -/
theorem wp_pushesR {P : Program} {o : Oper} {a : Act} {K : Act → World → Prop} {Q : Exit → Act → World → Prop} (s x : Operand) (t : TypeId)
  (ho : o.op = .call { callee := .builtin .append, args := #[s, x], argTypes := #[t, t] })
  (e : TypeId) (i : TypeInfo) (z : Value) (bytes : Nat) (ht : P.underlying t = some (.slice e)) (hi : P.info? e = some i) (hz : i.zero = some z)
  (hsize : i.size = sz) (hby : i.bytes = bytes) (hzs : z.cells.size = sz) (hsz : 0 < sz) (hcf : ∀ x, (cf x).length = sz) (hone : ∀ x, ∀ u ∈ cf x, u.oneCell' = true)
  (n : Nat) (hn : xs.length = n) (hs : a.eval s = .slice A n cap) (hF : FreshA cf sz e B w A cap xs)
  (ys : List α) (m : Nat) (hm : ys.length = m) (Ax : Option Addr) (c : Nat) (hx : a.eval x = .slice Ax m c) (hr : Rds cf sz w Ax ys)
  (h63 : n + m ≤ maxLen) (hbytes : (n + m) * bytes ≤ 140737488355328) (hbase : B ≤ w.heap.size)
  (h : ∀ A' cap' w', FreshA cf sz e B w' A' cap' (xs ++ ys) → w.grownBy w' (blkO A) → (blkO A' = blkO A ∨ blkO A' = some w.heap.size) → K (a.put o.dst (.slice A' (n + m) cap')) w') : o.wp P a w K Q := by
 by_cases h0 : ys.length = 0
 ·obtain rfl := List.eq_nil_of_length_eq_zero h0
  subst hn
  simp only [List.length_nil] at hm
  subst hm
  have hsrc : Src P i.size t (.slice Ax 0 c) 0 [] w := by
   cases Ax with
   | none => exact Src.ofNil w ht c
   | some q => exact Src.ofSlice w ht q 0 c [] (by simp) (fun j u hj => by simp at hj) (fun u hu => by cases hu)
  have hrun := run_append_nothing (P := P) w t t o.type e i ht hi A xs.length cap hF.capLe (.slice Ax 0 c) hsrc
  unfold Oper.wp execOp
  simp only [ho, resolve, invoke, builtin, Sem.run_bind, Sem.run_pure, Result.andThen_ok, List.map_toArray, List.map_cons, List.map_nil, hs, hx, hrun]
  exact h A cap w (by simpa using hF) (World.grownBy.refl _ _) (.inl rfl)
 ·obtain ⟨b, off, rfl, hb, hc⟩ := Rds.all hr (by omega)
  exact wp_pushes s x t ho e i z bytes ht hi hz hsize hby hzs hsz hcf hone n hn hs hF ys m hm b off c hx hc h63 hbytes hbase h
theorem Rds.takeN (h : Rds cf sz w A xs) (k : Nat) : Rds cf sz w A (xs.take k) := by
 intro i x hx
 refine h i x ?_
 rw [List.getElem?_take] at hx
 split at hx
 ·exact hx
 ·cases hx
theorem Rds.dropN (h : Rds cf sz w A xs) (k : Nat) (A' : Option Addr) (hA : ∀ b off, A = some ⟨b, off, none⟩ → A' = some ⟨b, off + k * sz, none⟩) : Rds cf sz w A' (xs.drop k) := by
 intro i x hx
 rw [List.getElem?_drop] at hx
 obtain ⟨b, off, e, hb, hc⟩ := h (k + i) x hx
 refine ⟨b, off + k * sz, hA b off e, hb, fun j v hv => ?_⟩
 have := hc j v hv
 rw [Nat.add_mul] at this
 rwa [show off + k * sz + i * sz + j = off + (k * sz + i * sz) + j by omega]
end
def BxO (B : Nat) (o : Obj) (v : Value) (w : World) : Prop := ∃ g, v = .slice (some ⟨g, 0, none⟩) 1 1 ∧ B ≤ g ∧ w.heap[g]? = some o
section
variable {α : Type} {cf : α → List Value} {sz : Nat} {T : TypeId} {B n : Nat} {L : List α} {v : Value} {w w1 w2 : World} {row : Option Nat} {d : Int} {o : Obj}
theorem BxO.keep (h : BxO B o v w1) (hg : w1.grownBy w2 row) (hb : bkI v = none ∨ bkI v ≠ row) : BxO B o v w2 := by
 obtain ⟨g, rfl, hB, hh⟩ := h
 refine ⟨g, rfl, hB, (hg.block g (Fresh.lt hh) ?_).trans hh⟩
 rcases hb with hb | hb
 ·cases hb
 ·exact hb
theorem BxO.at_ (h : BxO B o v w) : ∀ b, bkI v = some b → B ≤ b ∧ b < w.heap.size := by
 obtain ⟨g, rfl, hB, hh⟩ := h
 intro b hb
 cases hb
 exact ⟨hB, Fresh.lt hh⟩
theorem Rds.ofBox {g : Nat} {y : α} (h : w.heap[g]? = some (.cells (cf y).toArray T (0, 0))) : Rds cf sz w (some ⟨g, 0, none⟩) [y] := by
 intro i x hx
 match i, hx with
 | 0, hx =>
  simp only [List.getElem?_cons_zero, Option.some.injEq] at hx
  subst hx
  exact ⟨g, 0, rfl, Fresh.lt h, fun j u hu => by rw [Fresh.cell h]; simpa using hu⟩
 | i + 1, hx => simp at hx
theorem bkI_hat {A A' : Option Addr} {n1 n2 c1 c2 : Nat} (hat : blkO A' = blkO A ∨ blkO A' = some w.heap.size) : bkI (.slice A' n1 c1) = none ∨ bkI (.slice A' n1 c1) = bkI (.slice A n2 c2) ∨ ∃ b, bkI (.slice A' n1 c1) = some b ∧ w.heap.size ≤ b := by
 rw [bkI_sl, bkI_sl]
 rcases hat with h | h
 ·exact .inr (.inl h)
 ·exact .inr (.inr ⟨_, h, Nat.le_refl _⟩)
end
section
variable {α : Type} {cf : α → List Value} {sz : Nat} {w : World} {A : Option Addr} {xs : List α} {cap B : Nat}
theorem wpList_pushesR {P : Program} {ops : Array Oper} {rest : List Oper} {o : Oper} {a : Act} {Q : Exit → Act → World → Prop} (hgd : o.guard = none) (s x : Operand) (t : TypeId)
  (ho : o.op = .call { callee := .builtin .append, args := #[s, x], argTypes := #[t, t] })
  (e : TypeId) (i : TypeInfo) (z : Value) (bytes : Nat) (ht : P.underlying t = some (.slice e)) (hi : P.info? e = some i) (hz : i.zero = some z)
  (hsize : i.size = sz) (hby : i.bytes = bytes) (hzs : z.cells.size = sz) (hsz : 0 < sz) (hcf : ∀ x, (cf x).length = sz) (hone : ∀ x, ∀ u ∈ cf x, u.oneCell' = true)
  (n : Nat) (hn : xs.length = n) (hs : a.eval s = .slice A n cap) (hF : FreshA cf sz e B w A cap xs)
  (ys : List α) (m : Nat) (hm : ys.length = m) (Ax : Option Addr) (c : Nat) (hx : a.eval x = .slice Ax m c) (hr : Rds cf sz w Ax ys)
  (h63 : n + m ≤ maxLen) (hbytes : (n + m) * bytes ≤ 140737488355328) (hbase : B ≤ w.heap.size)
  (h : ∀ A' cap' w', FreshA cf sz e B w' A' cap' (xs ++ ys) → w.grownBy w' (blkO A) → (blkO A' = blkO A ∨ blkO A' = some w.heap.size) → wpList P ops Q rest (a.put o.dst (.slice A' (n + m) cap')) w') : wpList P ops Q (o :: rest) a w :=
 wpList_plain hgd fun _ hK => wp_pushesR s x t ho e i z bytes ht hi hz hsize hby hzs hsz hcf hone n hn hs hF ys m hm Ax c hx hr h63 hbytes hbase fun A' cap' w' h1 h2 h3 => hK _ _ (h A' cap' w' h1 h2 h3)
end
theorem FreshA.capMax {α : Type} {cf : α → List Value} {sz : Nat} {T : TypeId} {w : World} {A : Option Addr} {xs : List α} {cap B : Nat} (h : FreshA cf sz T B w A cap xs) : cap ≤ maxLen := by
 rcases h with ⟨_, _, rfl⟩ | ⟨g, _, _, _, _, _, _, h, _⟩
 ·exact Nat.zero_le _
 ·exact h
theorem RQO_of {dst : Option Tmp} {ds : List Deferred} {G : Value → World → Prop} {a : Act} {w : World} (v : Value) (hd : a.defers = ds) (hv : gotV dst a = v) (hG : G v w) : RQO dst ds G .normal a w := ⟨rfl, hd, by rw [hv]; exact hG⟩
def DrO (AT : Option Addr) (n k c : Nat) (v : Value) (w : World) : Prop := ∃ A', v = .slice A' (n - k) c ∧ (k < n → A' = AT)
theorem Rds.dropW {α : Type} {cf : α → List Value} {sz : Nat} {w : World} {A AT A' : Option Addr} {xs : List α} (h : Rds cf sz w A xs) (k : Nat) (hA : ∀ b off, A = some ⟨b, off, none⟩ → AT = some ⟨b, off + k * sz, none⟩) (hk : k < xs.length → A' = AT) : Rds cf sz w A' (xs.drop k) := by
 by_cases hlt : k < xs.length
 ·rw [hk hlt]; exact Rds.dropN h k AT hA
 ·rw [List.drop_eq_nil_of_le (by omega)]; exact Rds.nil

end Go.Proofs.Yteciijnpfapmhaa
namespace Go.Proofs.Yteciijnpfapmhaa
set_option linter.unusedSimpArgs false
set_option linter.unusedVariables false
open Go.RowKit

theorem FreshA.set_at {α : Type} {cf : α → List Value} {sz : Nat} {T : TypeId} {B cap : Nat} {w : World} {A : Option Addr} {xs : List α} (h : FreshA cf sz T B w A cap xs) {p : Addr} (hp : ∀ a, A = some a → a.block ≠ p.block) (u : Value) : FreshA cf sz T B (w.setCell p u) A cap xs := by
 rcases h with h | ⟨g, hA, hB, h⟩
 ·exact .inl h
 ·exact .inr ⟨g, hA, hB, h.set_far (by have := hp _ hA; simpa using this) u⟩
def LiO (b : Nat) (n : Nat) (o : Obj) (v : Value) (w : World) : Prop := ∃ g, v = .slice (some ⟨g, 0, none⟩) n n ∧ b < g ∧ w.heap[g]? = some o
theorem LiO.keep {b n : Nat} {o : Obj} {v : Value} {w w' : World} (h : LiO b n o v w) (hg : w.grownBy w' (some b)) : LiO b n o v w' := by
 obtain ⟨g, rfl, hb, hh⟩ := h
 exact ⟨g, rfl, hb, (hg.block g (Fresh.lt hh) (by simp; omega)).trans hh⟩
def XO (lo hi : Int) (v : Value) (w : World) : Prop := ∃ x : Int, v = .int .i64 x ∧ lo ≤ x ∧ x ≤ hi
def QO {α : Type} (vf : α → Value) (v : Value) (w : World) : Prop := ∃ q : α, v = vf q
def BqO {α : Type} (b : Nat) (cf : α → List Value) (T : TypeId) (v : Value) (w : World) : Prop := ∃ (q : α) (g : Nat), v = .slice (some ⟨g, 0, none⟩) 1 1 ∧ b < g ∧ w.heap[g]? = some (.cells (cf q).toArray T (0, 0))
theorem BqO.keep {α : Type} {b : Nat} {cf : α → List Value} {T : TypeId} {v : Value} {w w' : World} (h : BqO b cf T v w) (hg : w.grownBy w' (some b)) : BqO b cf T v w' := by
 obtain ⟨q, g, rfl, hb, hh⟩ := h
 exact ⟨q, g, rfl, hb, (hg.block g (Fresh.lt hh) (by simp; omega)).trans hh⟩

theorem post_named {P : Program} {fn : Func} {R : Ending → World → Prop} {e : Exit} {a : Act} {w : World} (h : ∀ W, W = w → bodyPost P fn R e a W) : bodyPost P fn R e a w := h w rfl
theorem wlist_named {P : Program} {ops : Array Oper} {Q : Exit → Act → World → Prop} {l : List Oper} {a : Act} {w : World} (h : ∀ W, W = w → wpList P ops Q l a W) : wpList P ops Q l a w := h w rfl
theorem grownT2 {a W w' : World} {row : Option Nat} (h : a.grownBy W row) (hg : W.grownBy w' row) : a.grownBy w' row := grown_trans h hg
theorem FreshA.of_own1 {α : Type} {cf : α → List Value} {sz : Nat} {T : TypeId} {w : World} {g cap B : Nat} {xs : List α} (h : OwnS cf sz T w g cap xs) (hB : B ≤ g) : FreshA cf sz T B w (some ⟨g, 0, none⟩) cap xs := .inr ⟨g, rfl, hB, h⟩
theorem cellK_alloc {w : World} {o : Obj} {b i : Nat} {v : Value} (h : w.cell? ⟨b, i, none⟩ = some v) : (w.alloc o).cell? ⟨b, i, none⟩ = some v := by
 have hlt : b < w.heap.size := by
  rcases Nat.lt_or_ge b w.heap.size with hl | hl
  ·exact hl
  ·simp [World.cell?, Array.getElem?_eq_none hl] at h
 exact (((Below.refl w.heap.size w).alloc (Nat.le_refl _) o).cell (p := ⟨b, i, none⟩) hlt).trans h
theorem cellK_drew {w : World} {b i : Nat} {v : Value} (h : w.cell? ⟨b, i, none⟩ = some v) : w.drew.cell? ⟨b, i, none⟩ = some v := h
theorem cellK_set {w : World} {p : Addr} {u : Value} {b i : Nat} {v : Value} (h : w.cell? ⟨b, i, none⟩ = some v) (hne : p.block ≠ b ∨ p.off ≠ i) : (w.setCell p u).cell? ⟨b, i, none⟩ = some v := by
 rw [World.cell?_setCell_other _ _ _ _ (by intro e; subst e; simp at hne)]
 exact h
theorem frozK_alloc {w : World} {c : Array Value} {t : TypeId} {b : Nat} (h : ∀ o, w.frozen? ⟨b, o, none⟩ = false) : ∀ o, (w.alloc (.cells c t)).frozen? ⟨b, o, none⟩ = false := by
 intro o
 rw [frozAlloc]
 split
 ·exact h o
 ·split
  ·rfl
  ·rename_i h1 h2
   have : (w.alloc (.cells c t)).heap[b]? = none := Array.getElem?_eq_none (by simp; omega)
   simp [farz, World.frozen?, this]
theorem frozK_drew {w : World} {b : Nat} (h : ∀ o, w.frozen? ⟨b, o, none⟩ = false) : ∀ o, w.drew.frozen? ⟨b, o, none⟩ = false := h
theorem frozK_set {w : World} {p : Addr} {u : Value} {b : Nat} (h : ∀ o, w.frozen? ⟨b, o, none⟩ = false) : ∀ o, (w.setCell p u).frozen? ⟨b, o, none⟩ = false := by
 intro o
 have := h o
 simpa [go_sem] using this

end Go.Proofs.Yteciijnpfapmhaa
namespace Go.Proofs.Yteciijnpfapmhaa
set_option linter.unusedSimpArgs false
set_option linter.unusedVariables false
open Go.RowKit

def BbO (n : Nat) (v : Value) (_w : World) : Prop := ∃ y : Bool, v = .bool y ∧ (y = true → n ≤ 6)
def lenAt : Option Value → Nat | some (.slice _ n _) => n | _ => 0
theorem lenAt_slice (A : Option Addr) (n c : Nat) : lenAt (some (.slice A n c)) = n := rfl
def FBa (b tb : Nat) (A2 : Option Addr) (n0 cp2 : Nat) (iq : Nat) (v : Value) (w1 : World) : Prop := match iq with
 | 0 => v = .pointer (some ⟨tb, 1, none⟩)
 | 1 => v = .slice A2 n0 cp2
 | 2 => v = .pointer (some ⟨b, 0, none⟩)
 | 3 => QO (fun q : Int × Int => .agg #[.int .i64 q.1, .int .i64 q.2]) v w1
 | 4 => BqO b cIv 50 v w1
 | _ => True
def FBb (b tb : Nat) (A2 : Option Addr) (n0 cp2 : Nat) (iq : Nat) (v : Value) (w1 : World) : Prop := match iq with
 | 0 => v = .pointer (some ⟨tb, 1, none⟩)
 | 1 => v = .slice A2 n0 cp2
 | 2 => v = .int .i64 (n0 : Int)
 | 3 => v = .pointer (some ⟨b, 0, none⟩)
 | 4 => XO 0 1 v w1
 | 5 => XO 6 7 v w1
 | 6 => BbO n0 v w1
 | _ => True
set_option maxRecDepth 100000 in
set_option maxHeartbeats 16000000 in
theorem c_bridge (b : Nat) (A : Option Addr) (cs : List Int) (cap : Nat) (m : Int) (w : World) (hcu : CurS w b A cs cap m) (hby : Bytes cs) (hm : 0 ≤ m ∧ m ≤ 700000000) (hl : cs.length ≤ 1000000000) :
  Calls Try.prog 73 #[.pointer (some ⟨b, 0, none⟩)] w fun e w' => ∃ (d : Int) (Af : Option Addr) (cf : Nat) (xs : List (Int × Int)), e = .returned (.agg #[.int .i64 d, .slice Af xs.length cf]) ∧ FreshA cIv 2 50 w.heap.size w' Af cf xs ∧ (0 ≤ d ∧ d ≤ 31) ∧ xs.length ≤ 8 ∧ CurS w' b A cs cap (m + 80) ∧ w.grownBy w' (some b) := by
 obtain ⟨i0, hI0, hI1, hI2, hI3⟩ := info_parts info_Iv
 have hlt0 := hcu.lt
 go_enter Try.func73, Try.ntmps73
 go_wp2_with (fail)
 refine calls_named ?_
 intro V1 hV
 have hkV1 : w.heap.size ≤ V1.heap.size := by rw [hV]; first | with_reducible exact Nat.le_refl _ | (simp [World.setCell]; done) | (simp; omega)
 have cu2 : CurS V1 b A cs cap (m) := by rw [hV]; (repeat' (first | with_reducible refine CurS.setc ?_ ?_ | with_reducible refine CurS.allo ?_ | with_reducible refine CurS.drw ?_ | with_reducible exact hcu | (dsimp only; omega) | (simp; done) | (simp; omega)))
 have gw3 : w.grownBy V1 (some b) := by rw [hV]; (repeat' (first | with_reducible exact World.grownBy.refl _ _ | fail | with_reducible refine grownA ?_ | with_reducible refine grownS ?_ ?_ | with_reducible refine grown_drew ?_ | (dsimp only; omega) | (simp; done) | omega))
 have hzgw3 := gw3.size
 have hlcu2 := cu2.lt
 have d4 : V1.cell? ⟨w.heap.size, 0, none⟩ = some (.int .i64 0) := by rw [hV]; first | (simp [go_sem, ↓IntWalk.iteOmega, *]; done) | (simp [go_sem, ↓IntWalk.iteOmega, *]; intros; omega)
 have d5 : V1.cell? ⟨w.heap.size, 1, none⟩ = some (.slice none 0 0) := by rw [hV]; first | (simp [go_sem, ↓IntWalk.iteOmega, *]; done) | (simp [go_sem, ↓IntWalk.iteOmega, *]; intros; omega)
 have e6 : ∀ o, V1.frozen? ⟨w.heap.size, o, none⟩ = false := by rw [hV]; intro o; first | (simp [go_sem, ↓IntWalk.iteOmega, *]; done) | (simp [go_sem, ↓IntWalk.iteOmega, *]; intros; omega)
 have hTR : w.heap.size < V1.heap.size := by rw [hV]; first | (simp; done) | (simp; omega)
 refine (c_among b A cs cap (m) _ ([1, 5, 10, 30] : List Int) _ (1) (30) _ cu2 hby (by omega) hl (by rw [hV]; exact Rds.of_lit (by simp) (by intro i x h; rcases i with _ | _ | _ | _ | i <;> simp at h ⊢ <;> first | exact h | omega)) (by simp) (by intro a ha; cases ha; simp; omega) (fun k hk => (show ∀ x ∈ ([1, 5, 10, 30] : List Int), 1 ≤ x ∧ x ≤ 30 by intro x hx; simp at hx; omega) _ (List.getElem_mem hk))).mono ?_
 rintro e W8 ⟨dx7, rfl, hdx7a, hdx7b, hcn, hg⟩
 clear hV
 have hkW8 := hg.size
 have c9 : W8.cell? ⟨w.heap.size, 0, none⟩ = some (.int .i64 0) := (cellRow hg (w.heap.size) 0).trans (by rw [if_pos ⟨by omega, by omega⟩]; exact d4)
 have c10 : W8.cell? ⟨w.heap.size, 1, none⟩ = some (.slice none 0 0) := (cellRow hg (w.heap.size) 1).trans (by rw [if_pos ⟨by omega, by omega⟩]; exact d5)
 have z11 : ∀ o, W8.frozen? ⟨w.heap.size, o, none⟩ = false := fun o => (frozRow hg (w.heap.size) o).trans (by rw [if_pos ⟨by omega, by omega⟩]; exact e6 o)
 have cu12 : CurS W8 b A cs cap (m + 1) := hcn
 have gw13 : w.grownBy W8 (some b) := grown_trans gw3 hg
 have hzgw13 := gw13.size
 have hlcu12 := cu12.lt
 clear d4 d5 e6 cu2 gw3
 clear hg
 have hTB : w.heap.size + 1 ≤ W8.heap.size := by omega
 go_wp2_with (fail)
 refine calls_named ?_
 intro V14 hV
 have hkV14 : W8.heap.size ≤ V14.heap.size := by rw [hV]; first | with_reducible exact Nat.le_refl _ | (simp [World.setCell]; done) | (simp; omega)
 have c15 : V14.cell? ⟨w.heap.size, 0, none⟩ = some (.int .i64 0) := by rw [hV]; first | ((repeat' (first | with_reducible exact c9 | with_reducible refine cellK_drew ?_ | with_reducible refine cellK_alloc ?_ | with_reducible refine cellK_set ?_ (by dsimp only; omega))); done) | (first | (simp [go_sem, ↓IntWalk.iteOmega, *]; done) | (simp [go_sem, ↓IntWalk.iteOmega, *]; intros; omega))
 have c16 : V14.cell? ⟨w.heap.size, 1, none⟩ = some (.slice none 0 0) := by rw [hV]; first | ((repeat' (first | with_reducible exact c10 | with_reducible refine cellK_drew ?_ | with_reducible refine cellK_alloc ?_ | with_reducible refine cellK_set ?_ (by dsimp only; omega))); done) | (first | (simp [go_sem, ↓IntWalk.iteOmega, *]; done) | (simp [go_sem, ↓IntWalk.iteOmega, *]; intros; omega))
 have z17 : ∀ o, V14.frozen? ⟨w.heap.size, o, none⟩ = false := by rw [hV]; first | ((repeat' (first | with_reducible exact z11 | with_reducible refine frozK_drew ?_ | with_reducible refine frozK_alloc ?_ | with_reducible refine frozK_set ?_)); done) | (intro o; first | (simp [go_sem, ↓IntWalk.iteOmega, *]; done) | (simp [go_sem, ↓IntWalk.iteOmega, *]; intros; omega))
 have cu18 : CurS V14 b A cs cap (m + 1) := by rw [hV]; (repeat' (first | with_reducible refine CurS.setc ?_ ?_ | with_reducible refine CurS.allo ?_ | with_reducible refine CurS.drw ?_ | with_reducible exact cu12 | (dsimp only; omega) | (simp; done) | (simp; omega)))
 have gw19 : w.grownBy V14 (some b) := by rw [hV]; (repeat' (first | with_reducible exact World.grownBy.refl _ _ | with_reducible exact gw13 | with_reducible refine grownA ?_ | with_reducible refine grownS ?_ ?_ | with_reducible refine grown_drew ?_ | (dsimp only; omega) | (simp; done) | omega))
 have hzgw19 := gw19.size
 have hlcu18 := cu18.lt
 clear c9 c10 z11 cu12 gw13
 have d20 : V14.cell? ⟨W8.heap.size, 0, none⟩ = some (.int .i64 dx7) := by rw [hV]; first | (simp [go_sem, ↓IntWalk.iteOmega, *]; done) | (simp [go_sem, ↓IntWalk.iteOmega, *]; intros; omega)
 have d21 : V14.cell? ⟨W8.heap.size, 1, none⟩ = some (.slice none 0 0) := by rw [hV]; first | (simp [go_sem, ↓IntWalk.iteOmega, *]; done) | (simp [go_sem, ↓IntWalk.iteOmega, *]; intros; omega)
 have e22 : ∀ o, V14.frozen? ⟨W8.heap.size, o, none⟩ = false := by rw [hV]; intro o; first | (simp [go_sem, ↓IntWalk.iteOmega, *]; done) | (simp [go_sem, ↓IntWalk.iteOmega, *]; intros; omega)
 have hTBl : W8.heap.size < V14.heap.size := by rw [hV]; first | (simp; done) | (simp; omega)
 clear hV
 refine (c_pick b A cs cap (m + 1) (4) _ cu18 hby (by omega) hl (by omega)).mono ?_
 rintro e W24 ⟨dx23, rfl, hdx23a, hdx23b, hcn, hg⟩
 have hkW24 := hg.size
 have c25 : W24.cell? ⟨w.heap.size, 0, none⟩ = some (.int .i64 0) := (cellRow hg (w.heap.size) 0).trans (by rw [if_pos ⟨by omega, by omega⟩]; exact c15)
 have c26 : W24.cell? ⟨w.heap.size, 1, none⟩ = some (.slice none 0 0) := (cellRow hg (w.heap.size) 1).trans (by rw [if_pos ⟨by omega, by omega⟩]; exact c16)
 have c27 : W24.cell? ⟨W8.heap.size, 0, none⟩ = some (.int .i64 dx7) := (cellRow hg (W8.heap.size) 0).trans (by rw [if_pos ⟨by omega, by omega⟩]; exact d20)
 have c28 : W24.cell? ⟨W8.heap.size, 1, none⟩ = some (.slice none 0 0) := (cellRow hg (W8.heap.size) 1).trans (by rw [if_pos ⟨by omega, by omega⟩]; exact d21)
 have z29 : ∀ o, W24.frozen? ⟨w.heap.size, o, none⟩ = false := fun o => (frozRow hg (w.heap.size) o).trans (by rw [if_pos ⟨by omega, by omega⟩]; exact z17 o)
 have z30 : ∀ o, W24.frozen? ⟨W8.heap.size, o, none⟩ = false := fun o => (frozRow hg (W8.heap.size) o).trans (by rw [if_pos ⟨by omega, by omega⟩]; exact e22 o)
 have cu31 : CurS W24 b A cs cap (m + 1 + 1) := hcn
 have gw32 : w.grownBy W24 (some b) := grown_trans gw19 hg
 have hzgw32 := gw32.size
 have hlcu31 := cu31.lt
 clear c15 c16 d20 d21 z17 e22 cu18 gw19
 clear hg
 obtain ⟨j1, rfl⟩ : ∃ j : Nat, dx23 = j := ⟨dx23.toNat, by omega⟩
 generalize htb : W8.heap.size = tb at *
 go_wp2_with (fail)
 go_loopw [4, 5] (fun fr i wr => ∃ (j : Nat) (f : Int) (A2 : Option Addr) (cp2 : Nat) (xs : List (Int × Int)), fr = .int .i64 f ∧ i = .int .i64 j ∧ (0 ≤ f ∧ f ≤ 200 - 62 * (j : Int)) ∧ xs.length + j ≤ 3 ∧ wr.cell? ⟨tb, 0, none⟩ = some (.int .i64 dx7) ∧ wr.cell? ⟨tb, 1, none⟩ = some (.slice A2 xs.length cp2) ∧ wr.cell? ⟨w.heap.size, 0, none⟩ = some (.int .i64 0) ∧ wr.cell? ⟨w.heap.size, 1, none⟩ = some (.slice none 0 0) ∧ (∀ o, wr.frozen? ⟨w.heap.size, o, none⟩ = false) ∧ (∀ o, wr.frozen? ⟨tb, o, none⟩ = false) ∧ tb < wr.heap.size ∧ FreshA cIv 2 50 (tb + 1) wr A2 cp2 xs ∧ CurS wr b A cs cap (m + 8 - 2 * (j : Int)) ∧ w.grownBy wr (some b)) (fun _ i _ => (intOf i).toNat)
 case atStart =>
  exact ⟨j1, 0, none, 0, [], rfl, rfl, by omega, by simp; omega, c27, c28, c25, c26, z29, z30, by omega, .inl ⟨rfl, rfl, rfl⟩, CurS.mono cu31 (by omega), gw32⟩
 case round =>
  obtain ⟨j, f, A2, cp2, xs, rfl, rfl, hf, hxj, p0, p1, p2, p3, pz0, pz1, ptl, hF, hcr, hgr⟩ := hrel
  have RF := hid hF
  clear hF
  have hgrz := hgr.size
  have hcrl := hcr.lt
  by_cases hj : j = 0
  rotate_left
  ·go_wp2_with (fail)
   refine calls_named ?_
   intro V33 hV
   have hkV33 : wr.heap.size ≤ V33.heap.size := by rw [hV]; first | with_reducible exact Nat.le_refl _ | (simp [World.setCell]; done) | (simp; omega)
   have c34 : V33.cell? ⟨tb, 0, none⟩ = some (.int .i64 dx7) := by rw [hV]; first | ((repeat' (first | with_reducible exact p0 | with_reducible refine cellK_drew ?_ | with_reducible refine cellK_alloc ?_ | with_reducible refine cellK_set ?_ (by dsimp only; omega))); done) | (first | (simp [go_sem, ↓IntWalk.iteOmega, *]; done) | (simp [go_sem, ↓IntWalk.iteOmega, *]; intros; omega))
   have c35 : V33.cell? ⟨tb, 1, none⟩ = some (.slice A2 xs.length cp2) := by rw [hV]; first | ((repeat' (first | with_reducible exact p1 | with_reducible refine cellK_drew ?_ | with_reducible refine cellK_alloc ?_ | with_reducible refine cellK_set ?_ (by dsimp only; omega))); done) | (first | (simp [go_sem, ↓IntWalk.iteOmega, *]; done) | (simp [go_sem, ↓IntWalk.iteOmega, *]; intros; omega))
   have c36 : V33.cell? ⟨w.heap.size, 0, none⟩ = some (.int .i64 0) := by rw [hV]; first | ((repeat' (first | with_reducible exact p2 | with_reducible refine cellK_drew ?_ | with_reducible refine cellK_alloc ?_ | with_reducible refine cellK_set ?_ (by dsimp only; omega))); done) | (first | (simp [go_sem, ↓IntWalk.iteOmega, *]; done) | (simp [go_sem, ↓IntWalk.iteOmega, *]; intros; omega))
   have c37 : V33.cell? ⟨w.heap.size, 1, none⟩ = some (.slice none 0 0) := by rw [hV]; first | ((repeat' (first | with_reducible exact p3 | with_reducible refine cellK_drew ?_ | with_reducible refine cellK_alloc ?_ | with_reducible refine cellK_set ?_ (by dsimp only; omega))); done) | (first | (simp [go_sem, ↓IntWalk.iteOmega, *]; done) | (simp [go_sem, ↓IntWalk.iteOmega, *]; intros; omega))
   have z38 : ∀ o, V33.frozen? ⟨w.heap.size, o, none⟩ = false := by rw [hV]; first | ((repeat' (first | with_reducible exact pz0 | with_reducible refine frozK_drew ?_ | with_reducible refine frozK_alloc ?_ | with_reducible refine frozK_set ?_)); done) | (intro o; first | (simp [go_sem, ↓IntWalk.iteOmega, *]; done) | (simp [go_sem, ↓IntWalk.iteOmega, *]; intros; omega))
   have z39 : ∀ o, V33.frozen? ⟨tb, o, none⟩ = false := by rw [hV]; first | ((repeat' (first | with_reducible exact pz1 | with_reducible refine frozK_drew ?_ | with_reducible refine frozK_alloc ?_ | with_reducible refine frozK_set ?_)); done) | (intro o; first | (simp [go_sem, ↓IntWalk.iteOmega, *]; done) | (simp [go_sem, ↓IntWalk.iteOmega, *]; intros; omega))
   have R40 : Hid (FreshA cIv 2 50 (tb + 1) V33 A2 cp2 xs) := hid (by rw [hV]; (repeat' (first | with_reducible exact RF.out | with_reducible refine FreshA.set_at ?_ (by assumption) _ | with_reducible refine FreshA.set_low ?_ ?_ _ | with_reducible refine FreshA.below ?_ (Below.drew (Below.refl _ _)) | with_reducible refine FreshA.below ?_ (Below.alloc (Below.refl _ _) (Nat.le_refl _) _) | (dsimp only; omega) | (simp; done) | (simp; omega))))
   have cu41 : CurS V33 b A cs cap (m + 8 - 2 * (j : Int)) := by rw [hV]; (repeat' (first | with_reducible refine CurS.setc ?_ ?_ | with_reducible refine CurS.allo ?_ | with_reducible refine CurS.drw ?_ | with_reducible exact hcr | (dsimp only; omega) | (simp; done) | (simp; omega)))
   have gw42 : w.grownBy V33 (some b) := by rw [hV]; (repeat' (first | with_reducible exact World.grownBy.refl _ _ | with_reducible exact hgr | with_reducible refine grownA ?_ | with_reducible refine grownS ?_ ?_ | with_reducible refine grown_drew ?_ | (dsimp only; omega) | (simp; done) | omega))
   have hzgw42 := gw42.size
   have hlcu41 := cu41.lt
   clear p0 p1 p2 p3 pz0 pz1 RF hcr hgr
   clear hV
   refine (c_pick b A cs cap (m + 8 - 2 * (j : Int)) (40) _ cu41 hby (by omega) hl (by omega)).mono ?_
   rintro e W44 ⟨dx43, rfl, hdx43a, hdx43b, hcn, hg⟩
   have hkW44 := hg.size
   have c45 : W44.cell? ⟨tb, 0, none⟩ = some (.int .i64 dx7) := (cellRow hg (tb) 0).trans (by rw [if_pos ⟨by omega, by omega⟩]; exact c34)
   have c46 : W44.cell? ⟨tb, 1, none⟩ = some (.slice A2 xs.length cp2) := (cellRow hg (tb) 1).trans (by rw [if_pos ⟨by omega, by omega⟩]; exact c35)
   have c47 : W44.cell? ⟨w.heap.size, 0, none⟩ = some (.int .i64 0) := (cellRow hg (w.heap.size) 0).trans (by rw [if_pos ⟨by omega, by omega⟩]; exact c36)
   have c48 : W44.cell? ⟨w.heap.size, 1, none⟩ = some (.slice none 0 0) := (cellRow hg (w.heap.size) 1).trans (by rw [if_pos ⟨by omega, by omega⟩]; exact c37)
   have z49 : ∀ o, W44.frozen? ⟨w.heap.size, o, none⟩ = false := fun o => (frozRow hg (w.heap.size) o).trans (by rw [if_pos ⟨by omega, by omega⟩]; exact z38 o)
   have z50 : ∀ o, W44.frozen? ⟨tb, o, none⟩ = false := fun o => (frozRow hg (tb) o).trans (by rw [if_pos ⟨by omega, by omega⟩]; exact z39 o)
   have R51 : Hid (FreshA cIv 2 50 (tb + 1) W44 A2 cp2 xs) := hid (FreshA.rowb R40.out hg (by omega))
   have cu52 : CurS W44 b A cs cap (m + 8 - 2 * (j : Int) + 1) := hcn
   have gw53 : w.grownBy W44 (some b) := grown_trans gw42 hg
   have hzgw53 := gw53.size
   have hlcu52 := cu52.lt
   clear c34 c35 c36 c37 z38 z39 R40 cu41 gw42
   clear hg
   go_wp2_with (fail)
   refine calls_named ?_
   intro V54 hV
   have hkV54 : W44.heap.size ≤ V54.heap.size := by rw [hV]; first | with_reducible exact Nat.le_refl _ | (simp [World.setCell]; done) | (simp; omega)
   have c55 : V54.cell? ⟨tb, 0, none⟩ = some (.int .i64 dx7) := by rw [hV]; first | ((repeat' (first | with_reducible exact c45 | with_reducible refine cellK_drew ?_ | with_reducible refine cellK_alloc ?_ | with_reducible refine cellK_set ?_ (by dsimp only; omega))); done) | (first | (simp [go_sem, ↓IntWalk.iteOmega, *]; done) | (simp [go_sem, ↓IntWalk.iteOmega, *]; intros; omega))
   have c56 : V54.cell? ⟨tb, 1, none⟩ = some (.slice A2 xs.length cp2) := by rw [hV]; first | ((repeat' (first | with_reducible exact c46 | with_reducible refine cellK_drew ?_ | with_reducible refine cellK_alloc ?_ | with_reducible refine cellK_set ?_ (by dsimp only; omega))); done) | (first | (simp [go_sem, ↓IntWalk.iteOmega, *]; done) | (simp [go_sem, ↓IntWalk.iteOmega, *]; intros; omega))
   have c57 : V54.cell? ⟨w.heap.size, 0, none⟩ = some (.int .i64 0) := by rw [hV]; first | ((repeat' (first | with_reducible exact c47 | with_reducible refine cellK_drew ?_ | with_reducible refine cellK_alloc ?_ | with_reducible refine cellK_set ?_ (by dsimp only; omega))); done) | (first | (simp [go_sem, ↓IntWalk.iteOmega, *]; done) | (simp [go_sem, ↓IntWalk.iteOmega, *]; intros; omega))
   have c58 : V54.cell? ⟨w.heap.size, 1, none⟩ = some (.slice none 0 0) := by rw [hV]; first | ((repeat' (first | with_reducible exact c48 | with_reducible refine cellK_drew ?_ | with_reducible refine cellK_alloc ?_ | with_reducible refine cellK_set ?_ (by dsimp only; omega))); done) | (first | (simp [go_sem, ↓IntWalk.iteOmega, *]; done) | (simp [go_sem, ↓IntWalk.iteOmega, *]; intros; omega))
   have z59 : ∀ o, V54.frozen? ⟨w.heap.size, o, none⟩ = false := by rw [hV]; first | ((repeat' (first | with_reducible exact z49 | with_reducible refine frozK_drew ?_ | with_reducible refine frozK_alloc ?_ | with_reducible refine frozK_set ?_)); done) | (intro o; first | (simp [go_sem, ↓IntWalk.iteOmega, *]; done) | (simp [go_sem, ↓IntWalk.iteOmega, *]; intros; omega))
   have z60 : ∀ o, V54.frozen? ⟨tb, o, none⟩ = false := by rw [hV]; first | ((repeat' (first | with_reducible exact z50 | with_reducible refine frozK_drew ?_ | with_reducible refine frozK_alloc ?_ | with_reducible refine frozK_set ?_)); done) | (intro o; first | (simp [go_sem, ↓IntWalk.iteOmega, *]; done) | (simp [go_sem, ↓IntWalk.iteOmega, *]; intros; omega))
   have R61 : Hid (FreshA cIv 2 50 (tb + 1) V54 A2 cp2 xs) := hid (by rw [hV]; (repeat' (first | with_reducible exact R51.out | with_reducible refine FreshA.set_at ?_ (by assumption) _ | with_reducible refine FreshA.set_low ?_ ?_ _ | with_reducible refine FreshA.below ?_ (Below.drew (Below.refl _ _)) | with_reducible refine FreshA.below ?_ (Below.alloc (Below.refl _ _) (Nat.le_refl _) _) | (dsimp only; omega) | (simp; done) | (simp; omega))))
   have cu62 : CurS V54 b A cs cap (m + 8 - 2 * (j : Int) + 1) := by rw [hV]; (repeat' (first | with_reducible refine CurS.setc ?_ ?_ | with_reducible refine CurS.allo ?_ | with_reducible refine CurS.drw ?_ | with_reducible exact cu52 | (dsimp only; omega) | (simp; done) | (simp; omega)))
   have gw63 : w.grownBy V54 (some b) := by rw [hV]; (repeat' (first | with_reducible exact World.grownBy.refl _ _ | with_reducible exact gw53 | with_reducible refine grownA ?_ | with_reducible refine grownS ?_ ?_ | with_reducible refine grown_drew ?_ | (dsimp only; omega) | (simp; done) | omega))
   have hzgw63 := gw63.size
   have hlcu62 := cu62.lt
   clear c45 c46 c47 c48 z49 z50 R51 cu52 gw53
   refine (c_among b A cs cap (m + 8 - 2 * (j : Int) + 1) _ ([0, 5, 20] : List Int) _ (0) (20) _ cu62 hby (by omega) hl (by rw [hV]; exact Rds.of_lit (by simp) (by intro i x h; rcases i with _ | _ | _ | i <;> simp at h ⊢ <;> first | exact h | omega)) (by simp) (by intro a ha; cases ha; simp; omega) (fun k hk => (show ∀ x ∈ ([0, 5, 20] : List Int), 0 ≤ x ∧ x ≤ 20 by intro x hx; simp at hx; omega) _ (List.getElem_mem hk))).mono ?_
   rintro e W65 ⟨dx64, rfl, hdx64a, hdx64b, hcn, hg⟩
   clear hV
   have hkW65 := hg.size
   have c66 : W65.cell? ⟨tb, 0, none⟩ = some (.int .i64 dx7) := (cellRow hg (tb) 0).trans (by rw [if_pos ⟨by omega, by omega⟩]; exact c55)
   have c67 : W65.cell? ⟨tb, 1, none⟩ = some (.slice A2 xs.length cp2) := (cellRow hg (tb) 1).trans (by rw [if_pos ⟨by omega, by omega⟩]; exact c56)
   have c68 : W65.cell? ⟨w.heap.size, 0, none⟩ = some (.int .i64 0) := (cellRow hg (w.heap.size) 0).trans (by rw [if_pos ⟨by omega, by omega⟩]; exact c57)
   have c69 : W65.cell? ⟨w.heap.size, 1, none⟩ = some (.slice none 0 0) := (cellRow hg (w.heap.size) 1).trans (by rw [if_pos ⟨by omega, by omega⟩]; exact c58)
   have z70 : ∀ o, W65.frozen? ⟨w.heap.size, o, none⟩ = false := fun o => (frozRow hg (w.heap.size) o).trans (by rw [if_pos ⟨by omega, by omega⟩]; exact z59 o)
   have z71 : ∀ o, W65.frozen? ⟨tb, o, none⟩ = false := fun o => (frozRow hg (tb) o).trans (by rw [if_pos ⟨by omega, by omega⟩]; exact z60 o)
   have R72 : Hid (FreshA cIv 2 50 (tb + 1) W65 A2 cp2 xs) := hid (FreshA.rowb R61.out hg (by omega))
   have cu73 : CurS W65 b A cs cap (m + 8 - 2 * (j : Int) + 1 + 1) := hcn
   have gw74 : w.grownBy W65 (some b) := grown_trans gw63 hg
   have hzgw74 := gw74.size
   have hlcu73 := cu73.lt
   clear c55 c56 c57 c58 z59 z60 R61 cu62 gw63
   clear hg
   go_wp2_with (at_builtin; refine wlist_named ?_)
   intro V75 hV
   have hkV75 : W65.heap.size ≤ V75.heap.size := by rw [hV]; first | with_reducible exact Nat.le_refl _ | (simp [World.setCell]; done) | (simp; omega)
   have c76 : V75.cell? ⟨tb, 0, none⟩ = some (.int .i64 dx7) := by rw [hV]; first | ((repeat' (first | with_reducible exact c66 | with_reducible refine cellK_drew ?_ | with_reducible refine cellK_alloc ?_ | with_reducible refine cellK_set ?_ (by dsimp only; omega))); done) | (first | (simp [go_sem, ↓IntWalk.iteOmega, *]; done) | (simp [go_sem, ↓IntWalk.iteOmega, *]; intros; omega))
   have c77 : V75.cell? ⟨tb, 1, none⟩ = some (.slice A2 xs.length cp2) := by rw [hV]; first | ((repeat' (first | with_reducible exact c67 | with_reducible refine cellK_drew ?_ | with_reducible refine cellK_alloc ?_ | with_reducible refine cellK_set ?_ (by dsimp only; omega))); done) | (first | (simp [go_sem, ↓IntWalk.iteOmega, *]; done) | (simp [go_sem, ↓IntWalk.iteOmega, *]; intros; omega))
   have c78 : V75.cell? ⟨w.heap.size, 0, none⟩ = some (.int .i64 0) := by rw [hV]; first | ((repeat' (first | with_reducible exact c68 | with_reducible refine cellK_drew ?_ | with_reducible refine cellK_alloc ?_ | with_reducible refine cellK_set ?_ (by dsimp only; omega))); done) | (first | (simp [go_sem, ↓IntWalk.iteOmega, *]; done) | (simp [go_sem, ↓IntWalk.iteOmega, *]; intros; omega))
   have c79 : V75.cell? ⟨w.heap.size, 1, none⟩ = some (.slice none 0 0) := by rw [hV]; first | ((repeat' (first | with_reducible exact c69 | with_reducible refine cellK_drew ?_ | with_reducible refine cellK_alloc ?_ | with_reducible refine cellK_set ?_ (by dsimp only; omega))); done) | (first | (simp [go_sem, ↓IntWalk.iteOmega, *]; done) | (simp [go_sem, ↓IntWalk.iteOmega, *]; intros; omega))
   have z80 : ∀ o, V75.frozen? ⟨w.heap.size, o, none⟩ = false := by rw [hV]; first | ((repeat' (first | with_reducible exact z70 | with_reducible refine frozK_drew ?_ | with_reducible refine frozK_alloc ?_ | with_reducible refine frozK_set ?_)); done) | (intro o; first | (simp [go_sem, ↓IntWalk.iteOmega, *]; done) | (simp [go_sem, ↓IntWalk.iteOmega, *]; intros; omega))
   have z81 : ∀ o, V75.frozen? ⟨tb, o, none⟩ = false := by rw [hV]; first | ((repeat' (first | with_reducible exact z71 | with_reducible refine frozK_drew ?_ | with_reducible refine frozK_alloc ?_ | with_reducible refine frozK_set ?_)); done) | (intro o; first | (simp [go_sem, ↓IntWalk.iteOmega, *]; done) | (simp [go_sem, ↓IntWalk.iteOmega, *]; intros; omega))
   have R82 : Hid (FreshA cIv 2 50 (tb + 1) V75 A2 cp2 xs) := hid (by rw [hV]; (repeat' (first | with_reducible exact R72.out | with_reducible refine FreshA.set_at ?_ (by assumption) _ | with_reducible refine FreshA.set_low ?_ ?_ _ | with_reducible refine FreshA.below ?_ (Below.drew (Below.refl _ _)) | with_reducible refine FreshA.below ?_ (Below.alloc (Below.refl _ _) (Nat.le_refl _) _) | (dsimp only; omega) | (simp; done) | (simp; omega))))
   have cu83 : CurS V75 b A cs cap (m + 8 - 2 * (j : Int) + 1 + 1) := by rw [hV]; (repeat' (first | with_reducible refine CurS.setc ?_ ?_ | with_reducible refine CurS.allo ?_ | with_reducible refine CurS.drw ?_ | with_reducible exact cu73 | (dsimp only; omega) | (simp; done) | (simp; omega)))
   have gw84 : w.grownBy V75 (some b) := by rw [hV]; (repeat' (first | with_reducible exact World.grownBy.refl _ _ | with_reducible exact gw74 | with_reducible refine grownA ?_ | with_reducible refine grownS ?_ ?_ | with_reducible refine grown_drew ?_ | (dsimp only; omega) | (simp; done) | omega))
   have hzgw84 := gw84.size
   have hlcu83 := cu83.lt
   clear c66 c67 c68 c69 z70 z71 R72 cu73 gw74
   refine wpList_pushesR (xs := xs) rfl (.tmp 28) (.tmp 32) 27 rfl 50 i0 _ 16 Try.underlying27 hI0 hI1 hI2 hI3 rfl (by decide) (fun _ => rfl) one_Iv _ rfl rfl R82.out [(f + 1 + dx43, f + 1 + dx43 + dx64)] 1 rfl _ _ rfl (by rw [hV]; exact Rds.ofBox (by first | exact heap_alloc_new _ _ | exact heapDrewAt (heap_alloc_new _ _))) (by unfold maxLen; omega) (by first | omega | (simp; omega)) (by omega) ?_
   intro A5 cp5 W5 hF3 hg3 hat3
   clear hV
   have hkW5 := hg3.size
   have hlo := R82.out.lo
   have c85 : W5.cell? ⟨tb, 0, none⟩ = some (.int .i64 dx7) := (World.cell?_of_block (a := ⟨tb, 0, none⟩) (hg3.block (tb) (by omega) (ne_blk hlo (by omega)))).trans c76
   have c86 : W5.cell? ⟨tb, 1, none⟩ = some (.slice A2 xs.length cp2) := (World.cell?_of_block (a := ⟨tb, 1, none⟩) (hg3.block (tb) (by omega) (ne_blk hlo (by omega)))).trans c77
   have c87 : W5.cell? ⟨w.heap.size, 0, none⟩ = some (.int .i64 0) := (World.cell?_of_block (a := ⟨w.heap.size, 0, none⟩) (hg3.block (w.heap.size) (by omega) (ne_blk hlo (by omega)))).trans c78
   have c88 : W5.cell? ⟨w.heap.size, 1, none⟩ = some (.slice none 0 0) := (World.cell?_of_block (a := ⟨w.heap.size, 1, none⟩) (hg3.block (w.heap.size) (by omega) (ne_blk hlo (by omega)))).trans c79
   have z89 : ∀ o, W5.frozen? ⟨w.heap.size, o, none⟩ = false := fun o => (World.frozen?_of_block (a := ⟨w.heap.size, o, none⟩) (hg3.block (w.heap.size) (by omega) (ne_blk hlo (by omega)))).trans (z80 o)
   have z90 : ∀ o, W5.frozen? ⟨tb, o, none⟩ = false := fun o => (World.frozen?_of_block (a := ⟨tb, o, none⟩) (hg3.block (tb) (by omega) (ne_blk hlo (by omega)))).trans (z81 o)
   have R91 : Hid (FreshA cIv 2 50 (tb + 1) W5 A5 cp5 (xs ++ [(f + 1 + dx43, f + 1 + dx43 + dx64)])) := hid (hF3)
   have cu92 : CurS W5 b A cs cap (m + 8 - 2 * (j : Int) + 1 + 1) := CurS.other cu83 hg3 hlo (by omega)
   have gw93 : w.grownBy W5 (some b) := grown_other gw84 hg3 (hlo.mono (by omega))
   have hzgw93 := gw93.size
   have hlcu92 := cu92.lt
   clear c76 c77 c78 c79 z80 z81 R82 cu83 gw84
   clear hlo
   clear hF3 hg3 hat3
   have hl5 : (xs ++ [(f + 1 + dx43, f + 1 + dx43 + dx64)]).length = xs.length + 1 := by simp
   go_wp2_with (fail)
   go_roundw
   case rel =>
    refine ⟨j - 1, f + 1 + dx43 + dx64, A5, cp5, xs ++ [(f + 1 + dx43, f + 1 + dx43 + dx64)], by first | rfl | go_num | (congr 1; omega), by first | rfl | go_num | (congr 1; omega), by omega, by simp; omega, ?_, ?_, ?_, ?_, ?_, ?_, by first | omega | (simp; omega), ?_, ?_, ?_⟩
    ·first | ((repeat' (first | with_reducible exact c85 | with_reducible refine cellK_drew ?_ | with_reducible refine cellK_alloc ?_ | with_reducible refine cellK_set ?_ (by dsimp only; omega))); done) | (first | (simp [go_sem, ↓IntWalk.iteOmega, *]; done) | (simp [go_sem, ↓IntWalk.iteOmega, *]; intros; omega))
    ·first | (simp [go_sem, ↓IntWalk.iteOmega, *]; done) | (simp [go_sem, ↓IntWalk.iteOmega, *]; intros; omega)
    ·first | ((repeat' (first | with_reducible exact c87 | with_reducible refine cellK_drew ?_ | with_reducible refine cellK_alloc ?_ | with_reducible refine cellK_set ?_ (by dsimp only; omega))); done) | (first | (simp [go_sem, ↓IntWalk.iteOmega, *]; done) | (simp [go_sem, ↓IntWalk.iteOmega, *]; intros; omega))
    ·first | ((repeat' (first | with_reducible exact c88 | with_reducible refine cellK_drew ?_ | with_reducible refine cellK_alloc ?_ | with_reducible refine cellK_set ?_ (by dsimp only; omega))); done) | (first | (simp [go_sem, ↓IntWalk.iteOmega, *]; done) | (simp [go_sem, ↓IntWalk.iteOmega, *]; intros; omega))
    ·first | ((repeat' (first | with_reducible exact z89 | with_reducible refine frozK_drew ?_ | with_reducible refine frozK_alloc ?_ | with_reducible refine frozK_set ?_)); done) | (intro o; first | (simp [go_sem, ↓IntWalk.iteOmega, *]; done) | (simp [go_sem, ↓IntWalk.iteOmega, *]; intros; omega))
    ·first | ((repeat' (first | with_reducible exact z90 | with_reducible refine frozK_drew ?_ | with_reducible refine frozK_alloc ?_ | with_reducible refine frozK_set ?_)); done) | (intro o; first | (simp [go_sem, ↓IntWalk.iteOmega, *]; done) | (simp [go_sem, ↓IntWalk.iteOmega, *]; intros; omega))
    ·(repeat' (first | with_reducible exact R91.out | with_reducible refine FreshA.set_at ?_ (by assumption) _ | with_reducible refine FreshA.set_low ?_ ?_ _ | with_reducible refine FreshA.below ?_ (Below.drew (Below.refl _ _)) | with_reducible refine FreshA.below ?_ (Below.alloc (Below.refl _ _) (Nat.le_refl _) _) | (dsimp only; omega) | (simp; done) | (simp; omega)))
    ·refine CurS.mono ?_ (m := m + 8 - 2 * (j : Int) + 1 + 1) (by omega)
     (repeat' (first | with_reducible refine CurS.setc ?_ ?_ | with_reducible refine CurS.allo ?_ | with_reducible refine CurS.drw ?_ | with_reducible exact cu92 | (dsimp only; omega) | (simp; done) | (simp; omega)))
    ·(repeat' (first | with_reducible exact World.grownBy.refl _ _ | with_reducible exact gw93 | with_reducible refine grownA ?_ | with_reducible refine grownS ?_ ?_ | with_reducible refine grown_drew ?_ | (dsimp only; omega) | (simp; done) | omega))
   case measure => simp [intOf]; omega
  subst hj
  simp only [Nat.add_zero] at hxj
  have hcs : CurS wr b A cs cap (m + 8) := CurS.mono hcr (by omega)
  go_wp2_with (fail)
  refine calls_named ?_
  intro V94 hV
  have hkV94 : wr.heap.size ≤ V94.heap.size := by rw [hV]; first | with_reducible exact Nat.le_refl _ | (simp [World.setCell]; done) | (simp; omega)
  have c95 : V94.cell? ⟨tb, 0, none⟩ = some (.int .i64 dx7) := by rw [hV]; first | ((repeat' (first | with_reducible exact p0 | with_reducible refine cellK_drew ?_ | with_reducible refine cellK_alloc ?_ | with_reducible refine cellK_set ?_ (by dsimp only; omega))); done) | (first | (simp [go_sem, ↓IntWalk.iteOmega, *]; done) | (simp [go_sem, ↓IntWalk.iteOmega, *]; intros; omega))
  have c96 : V94.cell? ⟨tb, 1, none⟩ = some (.slice A2 xs.length cp2) := by rw [hV]; first | ((repeat' (first | with_reducible exact p1 | with_reducible refine cellK_drew ?_ | with_reducible refine cellK_alloc ?_ | with_reducible refine cellK_set ?_ (by dsimp only; omega))); done) | (first | (simp [go_sem, ↓IntWalk.iteOmega, *]; done) | (simp [go_sem, ↓IntWalk.iteOmega, *]; intros; omega))
  have c97 : V94.cell? ⟨w.heap.size, 0, none⟩ = some (.int .i64 0) := by rw [hV]; first | ((repeat' (first | with_reducible exact p2 | with_reducible refine cellK_drew ?_ | with_reducible refine cellK_alloc ?_ | with_reducible refine cellK_set ?_ (by dsimp only; omega))); done) | (first | (simp [go_sem, ↓IntWalk.iteOmega, *]; done) | (simp [go_sem, ↓IntWalk.iteOmega, *]; intros; omega))
  have c98 : V94.cell? ⟨w.heap.size, 1, none⟩ = some (.slice none 0 0) := by rw [hV]; first | ((repeat' (first | with_reducible exact p3 | with_reducible refine cellK_drew ?_ | with_reducible refine cellK_alloc ?_ | with_reducible refine cellK_set ?_ (by dsimp only; omega))); done) | (first | (simp [go_sem, ↓IntWalk.iteOmega, *]; done) | (simp [go_sem, ↓IntWalk.iteOmega, *]; intros; omega))
  have z99 : ∀ o, V94.frozen? ⟨w.heap.size, o, none⟩ = false := by rw [hV]; first | ((repeat' (first | with_reducible exact pz0 | with_reducible refine frozK_drew ?_ | with_reducible refine frozK_alloc ?_ | with_reducible refine frozK_set ?_)); done) | (intro o; first | (simp [go_sem, ↓IntWalk.iteOmega, *]; done) | (simp [go_sem, ↓IntWalk.iteOmega, *]; intros; omega))
  have z100 : ∀ o, V94.frozen? ⟨tb, o, none⟩ = false := by rw [hV]; first | ((repeat' (first | with_reducible exact pz1 | with_reducible refine frozK_drew ?_ | with_reducible refine frozK_alloc ?_ | with_reducible refine frozK_set ?_)); done) | (intro o; first | (simp [go_sem, ↓IntWalk.iteOmega, *]; done) | (simp [go_sem, ↓IntWalk.iteOmega, *]; intros; omega))
  have R101 : Hid (FreshA cIv 2 50 (tb + 1) V94 A2 cp2 xs) := hid (by rw [hV]; (repeat' (first | with_reducible exact RF.out | with_reducible refine FreshA.set_at ?_ (by assumption) _ | with_reducible refine FreshA.set_low ?_ ?_ _ | with_reducible refine FreshA.below ?_ (Below.drew (Below.refl _ _)) | with_reducible refine FreshA.below ?_ (Below.alloc (Below.refl _ _) (Nat.le_refl _) _) | (dsimp only; omega) | (simp; done) | (simp; omega))))
  have cu102 : CurS V94 b A cs cap (m + 8) := by rw [hV]; (repeat' (first | with_reducible refine CurS.setc ?_ ?_ | with_reducible refine CurS.allo ?_ | with_reducible refine CurS.drw ?_ | with_reducible exact hcs | (dsimp only; omega) | (simp; done) | (simp; omega)))
  have gw103 : w.grownBy V94 (some b) := by rw [hV]; (repeat' (first | with_reducible exact World.grownBy.refl _ _ | with_reducible exact hgr | with_reducible refine grownA ?_ | with_reducible refine grownS ?_ ?_ | with_reducible refine grown_drew ?_ | (dsimp only; omega) | (simp; done) | omega))
  have hzgw103 := gw103.size
  have hlcu102 := cu102.lt
  clear p0 p1 p2 p3 pz0 pz1 RF hcs hgr
  clear hV
  refine (c_pick b A cs cap (m + 8) (24) _ cu102 hby (by omega) hl (by omega)).mono ?_
  rintro e W105 ⟨dx104, rfl, hdx104a, hdx104b, hcn, hg⟩
  have hkW105 := hg.size
  have c106 : W105.cell? ⟨tb, 0, none⟩ = some (.int .i64 dx7) := (cellRow hg (tb) 0).trans (by rw [if_pos ⟨by omega, by omega⟩]; exact c95)
  have c107 : W105.cell? ⟨tb, 1, none⟩ = some (.slice A2 xs.length cp2) := (cellRow hg (tb) 1).trans (by rw [if_pos ⟨by omega, by omega⟩]; exact c96)
  have c108 : W105.cell? ⟨w.heap.size, 0, none⟩ = some (.int .i64 0) := (cellRow hg (w.heap.size) 0).trans (by rw [if_pos ⟨by omega, by omega⟩]; exact c97)
  have c109 : W105.cell? ⟨w.heap.size, 1, none⟩ = some (.slice none 0 0) := (cellRow hg (w.heap.size) 1).trans (by rw [if_pos ⟨by omega, by omega⟩]; exact c98)
  have z110 : ∀ o, W105.frozen? ⟨w.heap.size, o, none⟩ = false := fun o => (frozRow hg (w.heap.size) o).trans (by rw [if_pos ⟨by omega, by omega⟩]; exact z99 o)
  have z111 : ∀ o, W105.frozen? ⟨tb, o, none⟩ = false := fun o => (frozRow hg (tb) o).trans (by rw [if_pos ⟨by omega, by omega⟩]; exact z100 o)
  have R112 : Hid (FreshA cIv 2 50 (tb + 1) W105 A2 cp2 xs) := hid (FreshA.rowb R101.out hg (by omega))
  have cu113 : CurS W105 b A cs cap (m + 8 + 1) := hcn
  have gw114 : w.grownBy W105 (some b) := grown_trans gw103 hg
  have hzgw114 := gw114.size
  have hlcu113 := cu113.lt
  clear c95 c96 c97 c98 z99 z100 R101 cu102 gw103
  clear hg
  by_cases hq : dx104 = 0
  ·subst hq
   go_wp2_with (fail)
   refine calls_named ?_
   intro V115 hV
   have hkV115 : W105.heap.size ≤ V115.heap.size := by rw [hV]; first | with_reducible exact Nat.le_refl _ | (simp [World.setCell]; done) | (simp; omega)
   have c116 : V115.cell? ⟨tb, 0, none⟩ = some (.int .i64 dx7) := by rw [hV]; first | ((repeat' (first | with_reducible exact c106 | with_reducible refine cellK_drew ?_ | with_reducible refine cellK_alloc ?_ | with_reducible refine cellK_set ?_ (by dsimp only; omega))); done) | (first | (simp [go_sem, ↓IntWalk.iteOmega, *]; done) | (simp [go_sem, ↓IntWalk.iteOmega, *]; intros; omega))
   have c117 : V115.cell? ⟨tb, 1, none⟩ = some (.slice A2 xs.length cp2) := by rw [hV]; first | ((repeat' (first | with_reducible exact c107 | with_reducible refine cellK_drew ?_ | with_reducible refine cellK_alloc ?_ | with_reducible refine cellK_set ?_ (by dsimp only; omega))); done) | (first | (simp [go_sem, ↓IntWalk.iteOmega, *]; done) | (simp [go_sem, ↓IntWalk.iteOmega, *]; intros; omega))
   have c118 : V115.cell? ⟨w.heap.size, 0, none⟩ = some (.int .i64 0) := by rw [hV]; first | ((repeat' (first | with_reducible exact c108 | with_reducible refine cellK_drew ?_ | with_reducible refine cellK_alloc ?_ | with_reducible refine cellK_set ?_ (by dsimp only; omega))); done) | (first | (simp [go_sem, ↓IntWalk.iteOmega, *]; done) | (simp [go_sem, ↓IntWalk.iteOmega, *]; intros; omega))
   have c119 : V115.cell? ⟨w.heap.size, 1, none⟩ = some (.slice none 0 0) := by rw [hV]; first | ((repeat' (first | with_reducible exact c109 | with_reducible refine cellK_drew ?_ | with_reducible refine cellK_alloc ?_ | with_reducible refine cellK_set ?_ (by dsimp only; omega))); done) | (first | (simp [go_sem, ↓IntWalk.iteOmega, *]; done) | (simp [go_sem, ↓IntWalk.iteOmega, *]; intros; omega))
   have z120 : ∀ o, V115.frozen? ⟨w.heap.size, o, none⟩ = false := by rw [hV]; first | ((repeat' (first | with_reducible exact z110 | with_reducible refine frozK_drew ?_ | with_reducible refine frozK_alloc ?_ | with_reducible refine frozK_set ?_)); done) | (intro o; first | (simp [go_sem, ↓IntWalk.iteOmega, *]; done) | (simp [go_sem, ↓IntWalk.iteOmega, *]; intros; omega))
   have z121 : ∀ o, V115.frozen? ⟨tb, o, none⟩ = false := by rw [hV]; first | ((repeat' (first | with_reducible exact z111 | with_reducible refine frozK_drew ?_ | with_reducible refine frozK_alloc ?_ | with_reducible refine frozK_set ?_)); done) | (intro o; first | (simp [go_sem, ↓IntWalk.iteOmega, *]; done) | (simp [go_sem, ↓IntWalk.iteOmega, *]; intros; omega))
   have R122 : Hid (FreshA cIv 2 50 (tb + 1) V115 A2 cp2 xs) := hid (by rw [hV]; (repeat' (first | with_reducible exact R112.out | with_reducible refine FreshA.set_at ?_ (by assumption) _ | with_reducible refine FreshA.set_low ?_ ?_ _ | with_reducible refine FreshA.below ?_ (Below.drew (Below.refl _ _)) | with_reducible refine FreshA.below ?_ (Below.alloc (Below.refl _ _) (Nat.le_refl _) _) | (dsimp only; omega) | (simp; done) | (simp; omega))))
   have cu123 : CurS V115 b A cs cap (m + 8 + 1) := by rw [hV]; (repeat' (first | with_reducible refine CurS.setc ?_ ?_ | with_reducible refine CurS.allo ?_ | with_reducible refine CurS.drw ?_ | with_reducible exact cu113 | (dsimp only; omega) | (simp; done) | (simp; omega)))
   have gw124 : w.grownBy V115 (some b) := by rw [hV]; (repeat' (first | with_reducible exact World.grownBy.refl _ _ | with_reducible exact gw114 | with_reducible refine grownA ?_ | with_reducible refine grownS ?_ ?_ | with_reducible refine grown_drew ?_ | (dsimp only; omega) | (simp; done) | omega))
   have hzgw124 := gw124.size
   have hlcu123 := cu123.lt
   clear c106 c107 c108 c109 z110 z111 R112 cu113 gw114
   refine (c_among b A cs cap (m + 8 + 1) _ ([0, 30, 31] : List Int) _ (0) (31) _ cu123 hby (by omega) hl (by rw [hV]; exact Rds.of_lit (by simp) (by intro i x h; rcases i with _ | _ | _ | i <;> simp at h ⊢ <;> first | exact h | omega)) (by simp) (by intro a ha; cases ha; simp; omega) (fun k hk => (show ∀ x ∈ ([0, 30, 31] : List Int), 0 ≤ x ∧ x ≤ 31 by intro x hx; simp at hx; omega) _ (List.getElem_mem hk))).mono ?_
   rintro e W126 ⟨dx125, rfl, hdx125a, hdx125b, hcn, hg⟩
   clear hV
   have hkW126 := hg.size
   have c127 : W126.cell? ⟨tb, 0, none⟩ = some (.int .i64 dx7) := (cellRow hg (tb) 0).trans (by rw [if_pos ⟨by omega, by omega⟩]; exact c116)
   have c128 : W126.cell? ⟨tb, 1, none⟩ = some (.slice A2 xs.length cp2) := (cellRow hg (tb) 1).trans (by rw [if_pos ⟨by omega, by omega⟩]; exact c117)
   have c129 : W126.cell? ⟨w.heap.size, 0, none⟩ = some (.int .i64 0) := (cellRow hg (w.heap.size) 0).trans (by rw [if_pos ⟨by omega, by omega⟩]; exact c118)
   have c130 : W126.cell? ⟨w.heap.size, 1, none⟩ = some (.slice none 0 0) := (cellRow hg (w.heap.size) 1).trans (by rw [if_pos ⟨by omega, by omega⟩]; exact c119)
   have z131 : ∀ o, W126.frozen? ⟨w.heap.size, o, none⟩ = false := fun o => (frozRow hg (w.heap.size) o).trans (by rw [if_pos ⟨by omega, by omega⟩]; exact z120 o)
   have z132 : ∀ o, W126.frozen? ⟨tb, o, none⟩ = false := fun o => (frozRow hg (tb) o).trans (by rw [if_pos ⟨by omega, by omega⟩]; exact z121 o)
   have R133 : Hid (FreshA cIv 2 50 (tb + 1) W126 A2 cp2 xs) := hid (FreshA.rowb R122.out hg (by omega))
   have cu134 : CurS W126 b A cs cap (m + 8 + 1 + 1) := hcn
   have gw135 : w.grownBy W126 (some b) := grown_trans gw124 hg
   have hzgw135 := gw135.size
   have hlcu134 := cu134.lt
   clear c116 c117 c118 c119 z120 z121 R122 cu123 gw124
   clear hg
   go_wp2_with (fail)
   refine post_named ?_
   intro V136 hV
   have hkV136 : W126.heap.size ≤ V136.heap.size := by rw [hV]; first | with_reducible exact Nat.le_refl _ | (simp [World.setCell]; done) | (simp; omega)
   have R137 : Hid (FreshA cIv 2 50 (tb + 1) V136 A2 cp2 xs) := hid (by rw [hV]; (repeat' (first | with_reducible exact R133.out | with_reducible refine FreshA.set_at ?_ (by assumption) _ | with_reducible refine FreshA.set_low ?_ ?_ _ | with_reducible refine FreshA.below ?_ (Below.drew (Below.refl _ _)) | with_reducible refine FreshA.below ?_ (Below.alloc (Below.refl _ _) (Nat.le_refl _) _) | (dsimp only; omega) | (simp; done) | (simp; omega))))
   have cu138 : CurS V136 b A cs cap (m + 8 + 1 + 1) := by rw [hV]; (repeat' (first | with_reducible refine CurS.setc ?_ ?_ | with_reducible refine CurS.allo ?_ | with_reducible refine CurS.drw ?_ | with_reducible exact cu134 | (dsimp only; omega) | (simp; done) | (simp; omega)))
   have gw139 : w.grownBy V136 (some b) := by rw [hV]; (repeat' (first | with_reducible exact World.grownBy.refl _ _ | with_reducible exact gw135 | with_reducible refine grownA ?_ | with_reducible refine grownS ?_ ?_ | with_reducible refine grown_drew ?_ | (dsimp only; omega) | (simp; done) | omega))
   have hzgw139 := gw139.size
   have hlcu138 := cu138.lt
   clear R133 cu134 gw135
   have r0 : V136.cell? ⟨w.heap.size, 0, none⟩ = some (.int .i64 dx125) := by rw [hV]; first | (simp [go_sem, ↓IntWalk.iteOmega, *]; done) | (simp [go_sem, ↓IntWalk.iteOmega, *]; intros; omega)
   have r1 : V136.cell? ⟨w.heap.size, 1, none⟩ = some (.slice A2 xs.length cp2) := by rw [hV]; first | (simp [go_sem, ↓IntWalk.iteOmega, *]; done) | (simp [go_sem, ↓IntWalk.iteOmega, *]; intros; omega)
   clear hV
   refine bodyPost_ret (v := .agg #[.int .i64 dx125, .slice A2 xs.length cp2]) ?_ rfl ⟨dx125, A2, cp2, xs, rfl, FreshA.mono R137.out (by omega), by omega, by first | omega | (simp; omega), CurS.mono cu138 (by omega), gw139⟩
   simp [results, Try.results73, go_sem, r0, r1]
  by_cases hq : dx104 = 1
  ·subst hq
   go_wp2_with (fail)
   refine wp_named ?_
   intro V140 hV
   have hkV140 : W105.heap.size ≤ V140.heap.size := by rw [hV]; first | with_reducible exact Nat.le_refl _ | (simp [World.setCell]; done) | (simp; omega)
   have c141 : V140.cell? ⟨tb, 0, none⟩ = some (.int .i64 dx7) := by rw [hV]; first | ((repeat' (first | with_reducible exact c106 | with_reducible refine cellK_drew ?_ | with_reducible refine cellK_alloc ?_ | with_reducible refine cellK_set ?_ (by dsimp only; omega))); done) | (first | (simp [go_sem, ↓IntWalk.iteOmega, *]; done) | (simp [go_sem, ↓IntWalk.iteOmega, *]; intros; omega))
   have c142 : V140.cell? ⟨tb, 1, none⟩ = some (.slice A2 xs.length cp2) := by rw [hV]; first | ((repeat' (first | with_reducible exact c107 | with_reducible refine cellK_drew ?_ | with_reducible refine cellK_alloc ?_ | with_reducible refine cellK_set ?_ (by dsimp only; omega))); done) | (first | (simp [go_sem, ↓IntWalk.iteOmega, *]; done) | (simp [go_sem, ↓IntWalk.iteOmega, *]; intros; omega))
   have c143 : V140.cell? ⟨w.heap.size, 0, none⟩ = some (.int .i64 0) := by rw [hV]; first | ((repeat' (first | with_reducible exact c108 | with_reducible refine cellK_drew ?_ | with_reducible refine cellK_alloc ?_ | with_reducible refine cellK_set ?_ (by dsimp only; omega))); done) | (first | (simp [go_sem, ↓IntWalk.iteOmega, *]; done) | (simp [go_sem, ↓IntWalk.iteOmega, *]; intros; omega))
   have c144 : V140.cell? ⟨w.heap.size, 1, none⟩ = some (.slice none 0 0) := by rw [hV]; first | ((repeat' (first | with_reducible exact c109 | with_reducible refine cellK_drew ?_ | with_reducible refine cellK_alloc ?_ | with_reducible refine cellK_set ?_ (by dsimp only; omega))); done) | (first | (simp [go_sem, ↓IntWalk.iteOmega, *]; done) | (simp [go_sem, ↓IntWalk.iteOmega, *]; intros; omega))
   have z145 : ∀ o, V140.frozen? ⟨w.heap.size, o, none⟩ = false := by rw [hV]; first | ((repeat' (first | with_reducible exact z110 | with_reducible refine frozK_drew ?_ | with_reducible refine frozK_alloc ?_ | with_reducible refine frozK_set ?_)); done) | (intro o; first | (simp [go_sem, ↓IntWalk.iteOmega, *]; done) | (simp [go_sem, ↓IntWalk.iteOmega, *]; intros; omega))
   have z146 : ∀ o, V140.frozen? ⟨tb, o, none⟩ = false := by rw [hV]; first | ((repeat' (first | with_reducible exact z111 | with_reducible refine frozK_drew ?_ | with_reducible refine frozK_alloc ?_ | with_reducible refine frozK_set ?_)); done) | (intro o; first | (simp [go_sem, ↓IntWalk.iteOmega, *]; done) | (simp [go_sem, ↓IntWalk.iteOmega, *]; intros; omega))
   have R147 : Hid (FreshA cIv 2 50 (tb + 1) V140 A2 cp2 xs) := hid (by rw [hV]; (repeat' (first | with_reducible exact R112.out | with_reducible refine FreshA.set_at ?_ (by assumption) _ | with_reducible refine FreshA.set_low ?_ ?_ _ | with_reducible refine FreshA.below ?_ (Below.drew (Below.refl _ _)) | with_reducible refine FreshA.below ?_ (Below.alloc (Below.refl _ _) (Nat.le_refl _) _) | (dsimp only; omega) | (simp; done) | (simp; omega))))
   have cu148 : CurS V140 b A cs cap (m + 8 + 1) := by rw [hV]; (repeat' (first | with_reducible refine CurS.setc ?_ ?_ | with_reducible refine CurS.allo ?_ | with_reducible refine CurS.drw ?_ | with_reducible exact cu113 | (dsimp only; omega) | (simp; done) | (simp; omega)))
   have gw149 : w.grownBy V140 (some b) := by rw [hV]; (repeat' (first | with_reducible exact World.grownBy.refl _ _ | with_reducible exact gw114 | with_reducible refine grownA ?_ | with_reducible refine grownS ?_ ?_ | with_reducible refine grown_drew ?_ | (dsimp only; omega) | (simp; done) | omega))
   have hzgw149 := gw149.size
   have hlcu148 := cu148.lt
   clear c106 c107 c108 c109 z110 z111 R112 cu113 gw114
   clear hV
   refine wp_region_c (n := 5) b (fun k w' => CurS w' b A cs cap (m + 8 + 1 + 5 * k)) [] (FBa b tb A2 xs.length cp2) rfl (by kernel_rfl) (fun _ _ d _ _ h => by cases d <;> exact h) (CurS.mono (CurS.drw cu148) (by omega)) ?_ (fun i hi => absurd hi (by simp)) ?_ ?_
   ·intro iq v w1 w2 hF hg
    match iq with
    | 0 => exact hF
    | 1 => exact hF
    | 2 => exact hF
    | 3 => exact hF
    | 4 => exact hF.keep hg
    | q + 5 => exact (show True from trivial)
   ·intro iq o hi ho vals k w1 hk hT hgW hf
    match iq, hi with
    | 0, _ =>
     injection ho with ho
     subst ho
     clear hf
     have hz1 := hgW.size
     have hlt1 := CurS.lt hT
     simp only [fillA, List.take, List.drop, put_none, Act.put, List.setIfInBounds_toArray, List.set_cons_zero, List.set_cons_succ, Nat.reduceAdd]
     go_wp2_with (fail)
     exact ⟨rfl, rfl, World.grownBy.refl _ _, CurS.mono hT (by omega), (by first | rfl | (simp [FBa]; done) | (simp [FBa, *]; done) | (simp [FBa, gotV]; done) | (simp [FBa, gotV, *]; done)), fun h => absurd h (by decide)⟩
    | 1, _ =>
     injection ho with ho
     subst ho
     have e0 : vals 0 = .pointer (some ⟨tb, 1, none⟩) := hf 0 (by decide) (by kernel_rfl)
     clear hf
     have hz1 := hgW.size
     have hlt1 := CurS.lt hT
     simp only [fillA, List.take, List.drop, put_none, Act.put, List.setIfInBounds_toArray, List.set_cons_zero, List.set_cons_succ, Nat.reduceAdd, e0]
     have k0 : w1.cell? ⟨tb, 0, none⟩ = some (.int .i64 dx7) := (cellRow hgW (tb) 0).trans (by rw [if_pos ⟨by omega, by omega⟩]; exact c141)
     have k1 : w1.cell? ⟨tb, 1, none⟩ = some (.slice A2 xs.length cp2) := (cellRow hgW (tb) 1).trans (by rw [if_pos ⟨by omega, by omega⟩]; exact c142)
     go_wp2_with (fail)
     exact ⟨rfl, rfl, World.grownBy.refl _ _, CurS.mono hT (by omega), (by first | rfl | (simp [FBa]; done) | (simp [FBa, *]; done) | (simp [FBa, gotV]; done) | (simp [FBa, gotV, *]; done)), fun h => absurd h (by decide)⟩
    | 2, _ =>
     injection ho with ho
     subst ho
     clear hf
     have hz1 := hgW.size
     have hlt1 := CurS.lt hT
     simp only [fillA, List.take, List.drop, put_none, Act.put, List.setIfInBounds_toArray, List.set_cons_zero, List.set_cons_succ, Nat.reduceAdd]
     go_wp2_with (fail)
     exact ⟨rfl, rfl, World.grownBy.refl _ _, CurS.mono hT (by omega), (by first | rfl | (simp [FBa]; done) | (simp [FBa, *]; done) | (simp [FBa, gotV]; done) | (simp [FBa, gotV, *]; done)), fun h => absurd h (by decide)⟩
    | 3, _ =>
     injection ho with ho
     subst ho
     have e2 : vals 2 = .pointer (some ⟨b, 0, none⟩) := hf 2 (by decide) (by kernel_rfl)
     clear hf
     have hz1 := hgW.size
     have hlt1 := CurS.lt hT
     simp only [fillA, List.take, List.drop, put_none, Act.put, List.setIfInBounds_toArray, List.set_cons_zero, List.set_cons_succ, Nat.reduceAdd, e2]
     go_wp2_with (go_at_call 80; refine (c_interval b A cs cap (m + 8 + 1 + 5 * k) _ hT hby (by omega) hl).mono ?_; rintro e w9 ⟨f9, t9, rfl, hf9, ht9, hcu9, hg9⟩)
     exact RQO_of (.agg #[.int .i64 f9, .int .i64 t9]) rfl (by first | rfl | (simp [gotV]; done) | (simp [gotV, *]; done)) ⟨hg9, CurS.mono hcu9 (by omega), ⟨(f9, t9), rfl⟩, fun h => absurd h (by decide)⟩
    | 4, _ =>
     injection ho with ho
     subst ho
     obtain ⟨q3, e3⟩ := hf 3 (by decide) (by kernel_rfl)
     clear hf
     have hz1 := hgW.size
     have hlt1 := CurS.lt hT
     simp only [fillA, List.take, List.drop, put_none, Act.put, List.setIfInBounds_toArray, List.set_cons_zero, List.set_cons_succ, Nat.reduceAdd, e3]
     go_wp2_with (fail)
     exact ⟨rfl, rfl, grownA (World.grownBy.refl _ _), CurS.mono (CurS.allo hT) (by omega), ⟨q3, _, rfl, by omega, heap_alloc_new _ _⟩, fun h => absurd h (by decide)⟩
    | q + 5, h => exact absurd h (by omega)
   ·intro vals W5 hT hgW hf hd
    have e0 : vals 0 = .pointer (some ⟨tb, 1, none⟩) := hf 0 (by decide)
    have e1 : vals 1 = .slice A2 xs.length cp2 := hf 1 (by decide)
    have e2 : vals 2 = .pointer (some ⟨b, 0, none⟩) := hf 2 (by decide)
    obtain ⟨q3, e3⟩ := hf 3 (by decide)
    obtain ⟨q4, g4, e4, hB4, hh4⟩ := hf 4 (by decide)
    clear hf hd
    simp only [fillA, List.take, List.drop, put_none, Act.put, List.setIfInBounds_toArray, List.set_cons_zero, List.set_cons_succ, Nat.reduceAdd, e0, e1, e2, e3, e4]
    have hkW5 := hgW.size
    have c150 : W5.cell? ⟨tb, 0, none⟩ = some (.int .i64 dx7) := (cellRow hgW (tb) 0).trans (by rw [if_pos ⟨by omega, by omega⟩]; exact c141)
    have c151 : W5.cell? ⟨tb, 1, none⟩ = some (.slice A2 xs.length cp2) := (cellRow hgW (tb) 1).trans (by rw [if_pos ⟨by omega, by omega⟩]; exact c142)
    have c152 : W5.cell? ⟨w.heap.size, 0, none⟩ = some (.int .i64 0) := (cellRow hgW (w.heap.size) 0).trans (by rw [if_pos ⟨by omega, by omega⟩]; exact c143)
    have c153 : W5.cell? ⟨w.heap.size, 1, none⟩ = some (.slice none 0 0) := (cellRow hgW (w.heap.size) 1).trans (by rw [if_pos ⟨by omega, by omega⟩]; exact c144)
    have z154 : ∀ o, W5.frozen? ⟨w.heap.size, o, none⟩ = false := fun o => (frozRow hgW (w.heap.size) o).trans (by rw [if_pos ⟨by omega, by omega⟩]; exact z145 o)
    have z155 : ∀ o, W5.frozen? ⟨tb, o, none⟩ = false := fun o => (frozRow hgW (tb) o).trans (by rw [if_pos ⟨by omega, by omega⟩]; exact z146 o)
    have R156 : Hid (FreshA cIv 2 50 (tb + 1) W5 A2 cp2 xs) := hid (FreshA.rowb R147.out hgW (by omega))
    have cu157 : CurS W5 b A cs cap (m + 8 + 1 + 25) := (CurS.mono hT (by omega))
    have gw158 : w.grownBy W5 (some b) := grown_trans gw149 hgW
    have hzgw158 := gw158.size
    have hlcu157 := cu157.lt
    clear c141 c142 c143 c144 z145 z146 R147 cu148 gw149
    clear hgW
    refine wpList_pushesR (xs := xs) rfl (.tmp 47) (.tmp 50) 27 rfl 50 i0 _ 16 Try.underlying27 hI0 hI1 hI2 hI3 rfl (by decide) (fun _ => rfl) one_Iv _ rfl rfl R156.out [q4] 1 rfl (some ⟨g4, 0, none⟩) _ rfl (Rds.ofBox hh4) (by unfold maxLen; omega) (by first | omega | (simp; omega)) (by omega) ?_
    intro A5 cp5 W6 hF3 hg3 hat3
    have hkW6 := hg3.size
    have hlo := R156.out.lo
    have c159 : W6.cell? ⟨tb, 0, none⟩ = some (.int .i64 dx7) := (World.cell?_of_block (a := ⟨tb, 0, none⟩) (hg3.block (tb) (by omega) (ne_blk hlo (by omega)))).trans c150
    have c160 : W6.cell? ⟨tb, 1, none⟩ = some (.slice A2 xs.length cp2) := (World.cell?_of_block (a := ⟨tb, 1, none⟩) (hg3.block (tb) (by omega) (ne_blk hlo (by omega)))).trans c151
    have c161 : W6.cell? ⟨w.heap.size, 0, none⟩ = some (.int .i64 0) := (World.cell?_of_block (a := ⟨w.heap.size, 0, none⟩) (hg3.block (w.heap.size) (by omega) (ne_blk hlo (by omega)))).trans c152
    have c162 : W6.cell? ⟨w.heap.size, 1, none⟩ = some (.slice none 0 0) := (World.cell?_of_block (a := ⟨w.heap.size, 1, none⟩) (hg3.block (w.heap.size) (by omega) (ne_blk hlo (by omega)))).trans c153
    have z163 : ∀ o, W6.frozen? ⟨w.heap.size, o, none⟩ = false := fun o => (World.frozen?_of_block (a := ⟨w.heap.size, o, none⟩) (hg3.block (w.heap.size) (by omega) (ne_blk hlo (by omega)))).trans (z154 o)
    have z164 : ∀ o, W6.frozen? ⟨tb, o, none⟩ = false := fun o => (World.frozen?_of_block (a := ⟨tb, o, none⟩) (hg3.block (tb) (by omega) (ne_blk hlo (by omega)))).trans (z155 o)
    have R165 : Hid (FreshA cIv 2 50 (tb + 1) W6 A5 cp5 (xs ++ [q4])) := hid (hF3)
    have cu166 : CurS W6 b A cs cap (m + 8 + 1 + 25) := CurS.other cu157 hg3 hlo (by omega)
    have gw167 : w.grownBy W6 (some b) := grown_other gw158 hg3 (hlo.mono (by omega))
    have hzgw167 := gw167.size
    have hlcu166 := cu166.lt
    clear c150 c151 c152 c153 z154 z155 R156 cu157 gw158
    clear hlo
    clear hF3 hg3 hat3
    have hl5 : (xs ++ [q4]).length = xs.length + 1 := by simp
    go_wp2_with (fail)
    refine post_named ?_
    intro V168 hV
    have hkV168 : W6.heap.size ≤ V168.heap.size := by rw [hV]; first | with_reducible exact Nat.le_refl _ | (simp [World.setCell]; done) | (simp; omega)
    have R169 : Hid (FreshA cIv 2 50 (tb + 1) V168 A5 cp5 (xs ++ [q4])) := hid (by rw [hV]; (repeat' (first | with_reducible exact R165.out | with_reducible refine FreshA.set_at ?_ (by assumption) _ | with_reducible refine FreshA.set_low ?_ ?_ _ | with_reducible refine FreshA.below ?_ (Below.drew (Below.refl _ _)) | with_reducible refine FreshA.below ?_ (Below.alloc (Below.refl _ _) (Nat.le_refl _) _) | (dsimp only; omega) | (simp; done) | (simp; omega))))
    have cu170 : CurS V168 b A cs cap (m + 8 + 1 + 25) := by rw [hV]; (repeat' (first | with_reducible refine CurS.setc ?_ ?_ | with_reducible refine CurS.allo ?_ | with_reducible refine CurS.drw ?_ | with_reducible exact cu166 | (dsimp only; omega) | (simp; done) | (simp; omega)))
    have gw171 : w.grownBy V168 (some b) := by rw [hV]; (repeat' (first | with_reducible exact World.grownBy.refl _ _ | with_reducible exact gw167 | with_reducible refine grownA ?_ | with_reducible refine grownS ?_ ?_ | with_reducible refine grown_drew ?_ | (dsimp only; omega) | (simp; done) | omega))
    have hzgw171 := gw171.size
    have hlcu170 := cu170.lt
    clear R165 cu166 gw167
    have r0 : V168.cell? ⟨w.heap.size, 0, none⟩ = some (.int .i64 dx7) := by rw [hV]; first | (simp [go_sem, ↓IntWalk.iteOmega, *]; done) | (simp [go_sem, ↓IntWalk.iteOmega, *]; intros; omega)
    have r1 : V168.cell? ⟨w.heap.size, 1, none⟩ = some (.slice A5 ((xs ++ [q4])).length cp5) := by rw [hV]; first | (simp [go_sem, ↓IntWalk.iteOmega, *]; done) | (simp [go_sem, ↓IntWalk.iteOmega, *]; intros; omega)
    clear hV
    refine bodyPost_ret (v := .agg #[.int .i64 dx7, .slice A5 ((xs ++ [q4])).length cp5]) ?_ rfl ⟨dx7, A5, cp5, ((xs ++ [q4])), rfl, FreshA.mono R169.out (by omega), by omega, by first | omega | (simp; omega), CurS.mono cu170 (by omega), gw171⟩
    simp [results, Try.results73, go_sem, r0, r1]
  by_cases hq : dx104 = 2
  ·subst hq
   go_wp2_with (fail)
   go_loopw [] (fun wr => ∃ (A2 : Option Addr) (cp2 : Nat) (xs : List (Int × Int)), xs.length ≤ 7 ∧ wr.cell? ⟨tb, 0, none⟩ = some (.int .i64 dx7) ∧ wr.cell? ⟨tb, 1, none⟩ = some (.slice A2 xs.length cp2) ∧ wr.cell? ⟨w.heap.size, 0, none⟩ = some (.int .i64 0) ∧ wr.cell? ⟨w.heap.size, 1, none⟩ = some (.slice none 0 0) ∧ (∀ o, wr.frozen? ⟨w.heap.size, o, none⟩ = false) ∧ (∀ o, wr.frozen? ⟨tb, o, none⟩ = false) ∧ tb < wr.heap.size ∧ FreshA cIv 2 50 (tb + 1) wr A2 cp2 xs ∧ CurS wr b A cs cap (m + 9 + 8 * (xs.length : Int)) ∧ w.grownBy wr (some b)) (fun wr => 9 - lenAt (wr.cell? ⟨tb, 1, none⟩))
   case atStart =>
    exact ⟨A2, cp2, xs, by omega, c106, c107, c108, c109, z110, z111, by omega, R112.out, CurS.mono cu113 (by omega), gw114⟩
   case round =>
    obtain ⟨A2, cp2, xs, hx7, p0, p1, p2, p3, pz0, pz1, ptl, hF, hcr, hgr⟩ := hrel
    have RF := hid hF
    clear hF
    have hgrz := hgr.size
    have hcrl := hcr.lt
    have hms := congrArg lenAt p1
    rw [lenAt_slice] at hms
    have HMS := hid hms
    clear hms
    go_wp2_with (fail)
    refine wp_named ?_
    intro V172 hV
    have hkV172 : wr.heap.size ≤ V172.heap.size := by rw [hV]; first | with_reducible exact Nat.le_refl _ | (simp [World.setCell]; done) | (simp; omega)
    have c173 : V172.cell? ⟨tb, 0, none⟩ = some (.int .i64 dx7) := by rw [hV]; first | ((repeat' (first | with_reducible exact p0 | with_reducible refine cellK_drew ?_ | with_reducible refine cellK_alloc ?_ | with_reducible refine cellK_set ?_ (by dsimp only; omega))); done) | (first | (simp [go_sem, ↓IntWalk.iteOmega, *]; done) | (simp [go_sem, ↓IntWalk.iteOmega, *]; intros; omega))
    have c174 : V172.cell? ⟨tb, 1, none⟩ = some (.slice A2 xs.length cp2) := by rw [hV]; first | ((repeat' (first | with_reducible exact p1 | with_reducible refine cellK_drew ?_ | with_reducible refine cellK_alloc ?_ | with_reducible refine cellK_set ?_ (by dsimp only; omega))); done) | (first | (simp [go_sem, ↓IntWalk.iteOmega, *]; done) | (simp [go_sem, ↓IntWalk.iteOmega, *]; intros; omega))
    have c175 : V172.cell? ⟨w.heap.size, 0, none⟩ = some (.int .i64 0) := by rw [hV]; first | ((repeat' (first | with_reducible exact p2 | with_reducible refine cellK_drew ?_ | with_reducible refine cellK_alloc ?_ | with_reducible refine cellK_set ?_ (by dsimp only; omega))); done) | (first | (simp [go_sem, ↓IntWalk.iteOmega, *]; done) | (simp [go_sem, ↓IntWalk.iteOmega, *]; intros; omega))
    have c176 : V172.cell? ⟨w.heap.size, 1, none⟩ = some (.slice none 0 0) := by rw [hV]; first | ((repeat' (first | with_reducible exact p3 | with_reducible refine cellK_drew ?_ | with_reducible refine cellK_alloc ?_ | with_reducible refine cellK_set ?_ (by dsimp only; omega))); done) | (first | (simp [go_sem, ↓IntWalk.iteOmega, *]; done) | (simp [go_sem, ↓IntWalk.iteOmega, *]; intros; omega))
    have z177 : ∀ o, V172.frozen? ⟨w.heap.size, o, none⟩ = false := by rw [hV]; first | ((repeat' (first | with_reducible exact pz0 | with_reducible refine frozK_drew ?_ | with_reducible refine frozK_alloc ?_ | with_reducible refine frozK_set ?_)); done) | (intro o; first | (simp [go_sem, ↓IntWalk.iteOmega, *]; done) | (simp [go_sem, ↓IntWalk.iteOmega, *]; intros; omega))
    have z178 : ∀ o, V172.frozen? ⟨tb, o, none⟩ = false := by rw [hV]; first | ((repeat' (first | with_reducible exact pz1 | with_reducible refine frozK_drew ?_ | with_reducible refine frozK_alloc ?_ | with_reducible refine frozK_set ?_)); done) | (intro o; first | (simp [go_sem, ↓IntWalk.iteOmega, *]; done) | (simp [go_sem, ↓IntWalk.iteOmega, *]; intros; omega))
    have R179 : Hid (FreshA cIv 2 50 (tb + 1) V172 A2 cp2 xs) := hid (by rw [hV]; (repeat' (first | with_reducible exact RF.out | with_reducible refine FreshA.set_at ?_ (by assumption) _ | with_reducible refine FreshA.set_low ?_ ?_ _ | with_reducible refine FreshA.below ?_ (Below.drew (Below.refl _ _)) | with_reducible refine FreshA.below ?_ (Below.alloc (Below.refl _ _) (Nat.le_refl _) _) | (dsimp only; omega) | (simp; done) | (simp; omega))))
    have cu180 : CurS V172 b A cs cap (m + 9 + 8 * (xs.length : Int)) := by rw [hV]; (repeat' (first | with_reducible refine CurS.setc ?_ ?_ | with_reducible refine CurS.allo ?_ | with_reducible refine CurS.drw ?_ | with_reducible exact hcr | (dsimp only; omega) | (simp; done) | (simp; omega)))
    have gw181 : w.grownBy V172 (some b) := by rw [hV]; (repeat' (first | with_reducible exact World.grownBy.refl _ _ | with_reducible exact hgr | with_reducible refine grownA ?_ | with_reducible refine grownS ?_ ?_ | with_reducible refine grown_drew ?_ | (dsimp only; omega) | (simp; done) | omega))
    have hzgw181 := gw181.size
    have hlcu180 := cu180.lt
    clear p0 p1 p2 p3 pz0 pz1 RF hcr hgr
    clear hV
    refine wp_region_c (n := 7) b (fun k w' => CurS w' b A cs cap (m + 9 + 8 * (xs.length : Int) + k)) [] (FBb b tb A2 xs.length cp2) rfl (by kernel_rfl) (fun _ _ d _ _ h => by cases d <;> exact h) (CurS.mono (CurS.drw cu180) (by omega)) ?_ (fun i hi => absurd hi (by simp)) ?_ ?_
    ·intro iq v w1 w2 hF hg
     match iq with
     | 0 => exact hF
     | 1 => exact hF
     | 2 => exact hF
     | 3 => exact hF
     | 4 => exact hF
     | 5 => exact hF
     | 6 => exact hF
     | q + 7 => exact (show True from trivial)
    ·intro iq o hi ho vals k w1 hk hT hgW hf
     match iq, hi with
     | 0, _ =>
      injection ho with ho
      subst ho
      clear hf
      have hz1 := hgW.size
      have hlt1 := CurS.lt hT
      simp only [fillA, List.take, List.drop, put_none, Act.put, List.setIfInBounds_toArray, List.set_cons_zero, List.set_cons_succ, Nat.reduceAdd]
      go_wp2_with (fail)
      exact ⟨rfl, rfl, World.grownBy.refl _ _, CurS.mono hT (by omega), (by first | rfl | (simp [FBb]; done) | (simp [FBb, *]; done) | (simp [FBb, gotV]; done) | (simp [FBb, gotV, *]; done)), fun h => absurd h (by decide)⟩
     | 1, _ =>
      injection ho with ho
      subst ho
      have e0 : vals 0 = .pointer (some ⟨tb, 1, none⟩) := hf 0 (by decide) (by kernel_rfl)
      clear hf
      have hz1 := hgW.size
      have hlt1 := CurS.lt hT
      simp only [fillA, List.take, List.drop, put_none, Act.put, List.setIfInBounds_toArray, List.set_cons_zero, List.set_cons_succ, Nat.reduceAdd, e0]
      have k0 : w1.cell? ⟨tb, 0, none⟩ = some (.int .i64 dx7) := (cellRow hgW (tb) 0).trans (by rw [if_pos ⟨by omega, by omega⟩]; exact c173)
      have k1 : w1.cell? ⟨tb, 1, none⟩ = some (.slice A2 xs.length cp2) := (cellRow hgW (tb) 1).trans (by rw [if_pos ⟨by omega, by omega⟩]; exact c174)
      go_wp2_with (fail)
      exact ⟨rfl, rfl, World.grownBy.refl _ _, CurS.mono hT (by omega), (by first | rfl | (simp [FBb]; done) | (simp [FBb, *]; done) | (simp [FBb, gotV]; done) | (simp [FBb, gotV, *]; done)), fun h => absurd h (by decide)⟩
     | 2, _ =>
      injection ho with ho
      subst ho
      have e1 : vals 1 = .slice A2 xs.length cp2 := hf 1 (by decide) (by kernel_rfl)
      clear hf
      have hz1 := hgW.size
      have hlt1 := CurS.lt hT
      simp only [fillA, List.take, List.drop, put_none, Act.put, List.setIfInBounds_toArray, List.set_cons_zero, List.set_cons_succ, Nat.reduceAdd, e1]
      go_wp2_with (fail)
      exact ⟨rfl, rfl, World.grownBy.refl _ _, CurS.mono hT (by omega), (by first | rfl | (simp [FBb]; done) | (simp [FBb, *]; done) | (simp [FBb, gotV]; done) | (simp [FBb, gotV, *]; done)), fun h => absurd h (by decide)⟩
     | 3, _ =>
      injection ho with ho
      subst ho
      clear hf
      have hz1 := hgW.size
      have hlt1 := CurS.lt hT
      simp only [fillA, List.take, List.drop, put_none, Act.put, List.setIfInBounds_toArray, List.set_cons_zero, List.set_cons_succ, Nat.reduceAdd]
      go_wp2_with (fail)
      exact ⟨rfl, rfl, World.grownBy.refl _ _, CurS.mono hT (by omega), (by first | rfl | (simp [FBb]; done) | (simp [FBb, *]; done) | (simp [FBb, gotV]; done) | (simp [FBb, gotV, *]; done)), fun h => absurd h (by decide)⟩
     | 4, _ =>
      injection ho with ho
      subst ho
      have e3 : vals 3 = .pointer (some ⟨b, 0, none⟩) := hf 3 (by decide) (by kernel_rfl)
      clear hf
      have hz1 := hgW.size
      have hlt1 := CurS.lt hT
      simp only [fillA, List.take, List.drop, put_none, Act.put, List.setIfInBounds_toArray, List.set_cons_zero, List.set_cons_succ, Nat.reduceAdd, e3]
      go_wp2_with (go_at_call 76; refine (c_pick b A cs cap (m + 9 + 8 * (xs.length : Int) + k) 2 _ hT hby (by omega) hl (by omega)).mono ?_; rintro e w9 ⟨x9, rfl, hx9a, hx9b, hcu9, hg9⟩)
      exact RQO_of (.int .i64 x9) rfl (by first | rfl | (simp [gotV]; done) | (simp [gotV, *]; done)) ⟨hg9, CurS.mono hcu9 (by omega), ⟨x9, rfl, by omega, by omega⟩, fun h => absurd h (by decide)⟩
     | 5, _ =>
      injection ho with ho
      subst ho
      obtain ⟨x4, e4, hxa4, hxb4⟩ := hf 4 (by decide) (by kernel_rfl)
      clear hf
      have hz1 := hgW.size
      have hlt1 := CurS.lt hT
      simp only [fillA, List.take, List.drop, put_none, Act.put, List.setIfInBounds_toArray, List.set_cons_zero, List.set_cons_succ, Nat.reduceAdd, e4]
      go_wp2_with (fail)
      exact RQO_of (.int .i64 (6 + x4)) rfl (by first | rfl | (simp [gotV]; done) | (simp [gotV]; omega)) ⟨World.grownBy.refl _ _, CurS.mono hT (by omega), ⟨_, rfl, by omega, by omega⟩, fun h => absurd h (by decide)⟩
     | 6, _ =>
      injection ho with ho
      subst ho
      have e2 : vals 2 = .int .i64 (xs.length : Int) := hf 2 (by decide) (by kernel_rfl)
      obtain ⟨x5, e5, hxa5, hxb5⟩ := hf 5 (by decide) (by kernel_rfl)
      clear hf
      have hz1 := hgW.size
      have hlt1 := CurS.lt hT
      simp only [fillA, List.take, List.drop, put_none, Act.put, List.setIfInBounds_toArray, List.set_cons_zero, List.set_cons_succ, Nat.reduceAdd, e2, e5]
      go_wp2_with (fail)
      exact RQO_of (.bool (decide ((xs.length : Int) < x5))) rfl (by first | rfl | (simp [gotV]; done) | (simp [gotV, *]; done)) ⟨World.grownBy.refl _ _, CurS.mono hT (by omega), ⟨_, rfl, fun h => by have := of_decide_eq_true h; omega⟩, fun h => absurd h (by decide)⟩
     | q + 7, h => exact absurd h (by omega)
    ·intro vals W5 hT hgW hf hd
     have e0 : vals 0 = .pointer (some ⟨tb, 1, none⟩) := hf 0 (by decide)
     have e1 : vals 1 = .slice A2 xs.length cp2 := hf 1 (by decide)
     have e2 : vals 2 = .int .i64 (xs.length : Int) := hf 2 (by decide)
     have e3 : vals 3 = .pointer (some ⟨b, 0, none⟩) := hf 3 (by decide)
     obtain ⟨x4, e4, hxa4, hxb4⟩ := hf 4 (by decide)
     obtain ⟨x5, e5, hxa5, hxb5⟩ := hf 5 (by decide)
     obtain ⟨y6, e6, hy6⟩ := hf 6 (by decide)
     clear hf hd
     simp only [fillA, List.take, List.drop, put_none, Act.put, List.setIfInBounds_toArray, List.set_cons_zero, List.set_cons_succ, Nat.reduceAdd, e0, e1, e2, e3, e4, e5, e6]
     have hkW5 := hgW.size
     have c182 : W5.cell? ⟨tb, 0, none⟩ = some (.int .i64 dx7) := (cellRow hgW (tb) 0).trans (by rw [if_pos ⟨by omega, by omega⟩]; exact c173)
     have c183 : W5.cell? ⟨tb, 1, none⟩ = some (.slice A2 xs.length cp2) := (cellRow hgW (tb) 1).trans (by rw [if_pos ⟨by omega, by omega⟩]; exact c174)
     have c184 : W5.cell? ⟨w.heap.size, 0, none⟩ = some (.int .i64 0) := (cellRow hgW (w.heap.size) 0).trans (by rw [if_pos ⟨by omega, by omega⟩]; exact c175)
     have c185 : W5.cell? ⟨w.heap.size, 1, none⟩ = some (.slice none 0 0) := (cellRow hgW (w.heap.size) 1).trans (by rw [if_pos ⟨by omega, by omega⟩]; exact c176)
     have z186 : ∀ o, W5.frozen? ⟨w.heap.size, o, none⟩ = false := fun o => (frozRow hgW (w.heap.size) o).trans (by rw [if_pos ⟨by omega, by omega⟩]; exact z177 o)
     have z187 : ∀ o, W5.frozen? ⟨tb, o, none⟩ = false := fun o => (frozRow hgW (tb) o).trans (by rw [if_pos ⟨by omega, by omega⟩]; exact z178 o)
     have R188 : Hid (FreshA cIv 2 50 (tb + 1) W5 A2 cp2 xs) := hid (FreshA.rowb R179.out hgW (by omega))
     have cu189 : CurS W5 b A cs cap (m + 9 + 8 * (xs.length : Int) + 7) := hT
     have gw190 : w.grownBy W5 (some b) := grown_trans gw181 hgW
     have hzgw190 := gw190.size
     have hlcu189 := cu189.lt
     clear c173 c174 c175 c176 z177 z178 R179 cu180 gw181
     clear hgW
     cases y6
     ·go_wp2_with (fail)
      refine post_named ?_
      intro V191 hV
      have hkV191 : W5.heap.size ≤ V191.heap.size := by rw [hV]; first | with_reducible exact Nat.le_refl _ | (simp [World.setCell]; done) | (simp; omega)
      have R192 : Hid (FreshA cIv 2 50 (tb + 1) V191 A2 cp2 xs) := hid (by rw [hV]; (repeat' (first | with_reducible exact R188.out | with_reducible refine FreshA.set_at ?_ (by assumption) _ | with_reducible refine FreshA.set_low ?_ ?_ _ | with_reducible refine FreshA.below ?_ (Below.drew (Below.refl _ _)) | with_reducible refine FreshA.below ?_ (Below.alloc (Below.refl _ _) (Nat.le_refl _) _) | (dsimp only; omega) | (simp; done) | (simp; omega))))
      have cu193 : CurS V191 b A cs cap (m + 9 + 8 * (xs.length : Int) + 7) := by rw [hV]; (repeat' (first | with_reducible refine CurS.setc ?_ ?_ | with_reducible refine CurS.allo ?_ | with_reducible refine CurS.drw ?_ | with_reducible exact cu189 | (dsimp only; omega) | (simp; done) | (simp; omega)))
      have gw194 : w.grownBy V191 (some b) := by rw [hV]; (repeat' (first | with_reducible exact World.grownBy.refl _ _ | with_reducible exact gw190 | with_reducible refine grownA ?_ | with_reducible refine grownS ?_ ?_ | with_reducible refine grown_drew ?_ | (dsimp only; omega) | (simp; done) | omega))
      have hzgw194 := gw194.size
      have hlcu193 := cu193.lt
      clear R188 cu189 gw190
      have r0 : V191.cell? ⟨w.heap.size, 0, none⟩ = some (.int .i64 dx7) := by rw [hV]; first | (simp [go_sem, ↓IntWalk.iteOmega, *]; done) | (simp [go_sem, ↓IntWalk.iteOmega, *]; intros; omega)
      have r1 : V191.cell? ⟨w.heap.size, 1, none⟩ = some (.slice A2 xs.length cp2) := by rw [hV]; first | (simp [go_sem, ↓IntWalk.iteOmega, *]; done) | (simp [go_sem, ↓IntWalk.iteOmega, *]; intros; omega)
      clear hV
      refine bodyPost_ret (v := .agg #[.int .i64 dx7, .slice A2 xs.length cp2]) ?_ rfl ⟨dx7, A2, cp2, xs, rfl, FreshA.mono R192.out (by omega), by omega, by first | omega | (simp; omega), CurS.mono cu193 (by omega), gw194⟩
      simp [results, Try.results73, go_sem, r0, r1]
     have hx6 := hy6 rfl
     go_wp2_with (at_builtin; refine wlist_named ?_)
     intro V195 hV
     have hkV195 : W5.heap.size ≤ V195.heap.size := by rw [hV]; first | with_reducible exact Nat.le_refl _ | (simp [World.setCell]; done) | (simp; omega)
     have c196 : V195.cell? ⟨tb, 0, none⟩ = some (.int .i64 dx7) := by rw [hV]; first | ((repeat' (first | with_reducible exact c182 | with_reducible refine cellK_drew ?_ | with_reducible refine cellK_alloc ?_ | with_reducible refine cellK_set ?_ (by dsimp only; omega))); done) | (first | (simp [go_sem, ↓IntWalk.iteOmega, *]; done) | (simp [go_sem, ↓IntWalk.iteOmega, *]; intros; omega))
     have c197 : V195.cell? ⟨tb, 1, none⟩ = some (.slice A2 xs.length cp2) := by rw [hV]; first | ((repeat' (first | with_reducible exact c183 | with_reducible refine cellK_drew ?_ | with_reducible refine cellK_alloc ?_ | with_reducible refine cellK_set ?_ (by dsimp only; omega))); done) | (first | (simp [go_sem, ↓IntWalk.iteOmega, *]; done) | (simp [go_sem, ↓IntWalk.iteOmega, *]; intros; omega))
     have c198 : V195.cell? ⟨w.heap.size, 0, none⟩ = some (.int .i64 0) := by rw [hV]; first | ((repeat' (first | with_reducible exact c184 | with_reducible refine cellK_drew ?_ | with_reducible refine cellK_alloc ?_ | with_reducible refine cellK_set ?_ (by dsimp only; omega))); done) | (first | (simp [go_sem, ↓IntWalk.iteOmega, *]; done) | (simp [go_sem, ↓IntWalk.iteOmega, *]; intros; omega))
     have c199 : V195.cell? ⟨w.heap.size, 1, none⟩ = some (.slice none 0 0) := by rw [hV]; first | ((repeat' (first | with_reducible exact c185 | with_reducible refine cellK_drew ?_ | with_reducible refine cellK_alloc ?_ | with_reducible refine cellK_set ?_ (by dsimp only; omega))); done) | (first | (simp [go_sem, ↓IntWalk.iteOmega, *]; done) | (simp [go_sem, ↓IntWalk.iteOmega, *]; intros; omega))
     have z200 : ∀ o, V195.frozen? ⟨w.heap.size, o, none⟩ = false := by rw [hV]; first | ((repeat' (first | with_reducible exact z186 | with_reducible refine frozK_drew ?_ | with_reducible refine frozK_alloc ?_ | with_reducible refine frozK_set ?_)); done) | (intro o; first | (simp [go_sem, ↓IntWalk.iteOmega, *]; done) | (simp [go_sem, ↓IntWalk.iteOmega, *]; intros; omega))
     have z201 : ∀ o, V195.frozen? ⟨tb, o, none⟩ = false := by rw [hV]; first | ((repeat' (first | with_reducible exact z187 | with_reducible refine frozK_drew ?_ | with_reducible refine frozK_alloc ?_ | with_reducible refine frozK_set ?_)); done) | (intro o; first | (simp [go_sem, ↓IntWalk.iteOmega, *]; done) | (simp [go_sem, ↓IntWalk.iteOmega, *]; intros; omega))
     have R202 : Hid (FreshA cIv 2 50 (tb + 1) V195 A2 cp2 xs) := hid (by rw [hV]; (repeat' (first | with_reducible exact R188.out | with_reducible refine FreshA.set_at ?_ (by assumption) _ | with_reducible refine FreshA.set_low ?_ ?_ _ | with_reducible refine FreshA.below ?_ (Below.drew (Below.refl _ _)) | with_reducible refine FreshA.below ?_ (Below.alloc (Below.refl _ _) (Nat.le_refl _) _) | (dsimp only; omega) | (simp; done) | (simp; omega))))
     have cu203 : CurS V195 b A cs cap (m + 9 + 8 * (xs.length : Int) + 7) := by rw [hV]; (repeat' (first | with_reducible refine CurS.setc ?_ ?_ | with_reducible refine CurS.allo ?_ | with_reducible refine CurS.drw ?_ | with_reducible exact cu189 | (dsimp only; omega) | (simp; done) | (simp; omega)))
     have gw204 : w.grownBy V195 (some b) := by rw [hV]; (repeat' (first | with_reducible exact World.grownBy.refl _ _ | with_reducible exact gw190 | with_reducible refine grownA ?_ | with_reducible refine grownS ?_ ?_ | with_reducible refine grown_drew ?_ | (dsimp only; omega) | (simp; done) | omega))
     have hzgw204 := gw204.size
     have hlcu203 := cu203.lt
     clear c182 c183 c184 c185 z186 z187 R188 cu189 gw190
     refine wpList_pushesR (xs := xs) rfl (.tmp 63) (.tmp 75) 27 rfl 50 i0 _ 16 Try.underlying27 hI0 hI1 hI2 hI3 rfl (by decide) (fun _ => rfl) one_Iv _ rfl rfl R202.out [(400 + 10 * (xs.length : Int), 403 + 10 * (xs.length : Int))] 1 rfl _ _ rfl (by rw [hV]; exact Rds.ofBox (by first | exact heap_alloc_new _ _ | exact heapDrewAt (heap_alloc_new _ _))) (by unfold maxLen; omega) (by first | omega | (simp; omega)) (by omega) ?_
     intro A5 cp5 W6 hF3 hg3 hat3
     clear hV
     have hkW6 := hg3.size
     have hlo := R202.out.lo
     have c205 : W6.cell? ⟨tb, 0, none⟩ = some (.int .i64 dx7) := (World.cell?_of_block (a := ⟨tb, 0, none⟩) (hg3.block (tb) (by omega) (ne_blk hlo (by omega)))).trans c196
     have c206 : W6.cell? ⟨tb, 1, none⟩ = some (.slice A2 xs.length cp2) := (World.cell?_of_block (a := ⟨tb, 1, none⟩) (hg3.block (tb) (by omega) (ne_blk hlo (by omega)))).trans c197
     have c207 : W6.cell? ⟨w.heap.size, 0, none⟩ = some (.int .i64 0) := (World.cell?_of_block (a := ⟨w.heap.size, 0, none⟩) (hg3.block (w.heap.size) (by omega) (ne_blk hlo (by omega)))).trans c198
     have c208 : W6.cell? ⟨w.heap.size, 1, none⟩ = some (.slice none 0 0) := (World.cell?_of_block (a := ⟨w.heap.size, 1, none⟩) (hg3.block (w.heap.size) (by omega) (ne_blk hlo (by omega)))).trans c199
     have z209 : ∀ o, W6.frozen? ⟨w.heap.size, o, none⟩ = false := fun o => (World.frozen?_of_block (a := ⟨w.heap.size, o, none⟩) (hg3.block (w.heap.size) (by omega) (ne_blk hlo (by omega)))).trans (z200 o)
     have z210 : ∀ o, W6.frozen? ⟨tb, o, none⟩ = false := fun o => (World.frozen?_of_block (a := ⟨tb, o, none⟩) (hg3.block (tb) (by omega) (ne_blk hlo (by omega)))).trans (z201 o)
     have R211 : Hid (FreshA cIv 2 50 (tb + 1) W6 A5 cp5 (xs ++ [(400 + 10 * (xs.length : Int), 403 + 10 * (xs.length : Int))])) := hid (hF3)
     have cu212 : CurS W6 b A cs cap (m + 9 + 8 * (xs.length : Int) + 7) := CurS.other cu203 hg3 hlo (by omega)
     have gw213 : w.grownBy W6 (some b) := grown_other gw204 hg3 (hlo.mono (by omega))
     have hzgw213 := gw213.size
     have hlcu212 := cu212.lt
     clear c196 c197 c198 c199 z200 z201 R202 cu203 gw204
     clear hlo
     clear hF3 hg3 hat3
     have hl5 : (xs ++ [(400 + 10 * (xs.length : Int), 403 + 10 * (xs.length : Int))]).length = xs.length + 1 := by simp
     go_wp2_with (fail)
     go_roundw
     case rel =>
      refine ⟨A5, cp5, xs ++ [(400 + 10 * (xs.length : Int), 403 + 10 * (xs.length : Int))], by simp; omega, ?_, ?_, ?_, ?_, ?_, ?_, by first | omega | (simp; omega), ?_, ?_, ?_⟩
      ·first | ((repeat' (first | with_reducible exact c205 | with_reducible refine cellK_drew ?_ | with_reducible refine cellK_alloc ?_ | with_reducible refine cellK_set ?_ (by dsimp only; omega))); done) | (first | (simp [go_sem, ↓IntWalk.iteOmega, *]; done) | (simp [go_sem, ↓IntWalk.iteOmega, *]; intros; omega))
      ·first | (simp [go_sem, ↓IntWalk.iteOmega, *]; done) | (simp [go_sem, ↓IntWalk.iteOmega, *]; intros; omega)
      ·first | ((repeat' (first | with_reducible exact c207 | with_reducible refine cellK_drew ?_ | with_reducible refine cellK_alloc ?_ | with_reducible refine cellK_set ?_ (by dsimp only; omega))); done) | (first | (simp [go_sem, ↓IntWalk.iteOmega, *]; done) | (simp [go_sem, ↓IntWalk.iteOmega, *]; intros; omega))
      ·first | ((repeat' (first | with_reducible exact c208 | with_reducible refine cellK_drew ?_ | with_reducible refine cellK_alloc ?_ | with_reducible refine cellK_set ?_ (by dsimp only; omega))); done) | (first | (simp [go_sem, ↓IntWalk.iteOmega, *]; done) | (simp [go_sem, ↓IntWalk.iteOmega, *]; intros; omega))
      ·first | ((repeat' (first | with_reducible exact z209 | with_reducible refine frozK_drew ?_ | with_reducible refine frozK_alloc ?_ | with_reducible refine frozK_set ?_)); done) | (intro o; first | (simp [go_sem, ↓IntWalk.iteOmega, *]; done) | (simp [go_sem, ↓IntWalk.iteOmega, *]; intros; omega))
      ·first | ((repeat' (first | with_reducible exact z210 | with_reducible refine frozK_drew ?_ | with_reducible refine frozK_alloc ?_ | with_reducible refine frozK_set ?_)); done) | (intro o; first | (simp [go_sem, ↓IntWalk.iteOmega, *]; done) | (simp [go_sem, ↓IntWalk.iteOmega, *]; intros; omega))
      ·(repeat' (first | with_reducible exact R211.out | with_reducible refine FreshA.set_at ?_ (by assumption) _ | with_reducible refine FreshA.set_low ?_ ?_ _ | with_reducible refine FreshA.below ?_ (Below.drew (Below.refl _ _)) | with_reducible refine FreshA.below ?_ (Below.alloc (Below.refl _ _) (Nat.le_refl _) _) | (dsimp only; omega) | (simp; done) | (simp; omega)))
      ·refine CurS.mono ?_ (m := m + 9 + 8 * (xs.length : Int) + 7) (by omega)
       (repeat' (first | with_reducible refine CurS.setc ?_ ?_ | with_reducible refine CurS.allo ?_ | with_reducible refine CurS.drw ?_ | with_reducible exact cu212 | (dsimp only; omega) | (simp; done) | (simp; omega)))
      ·(repeat' (first | with_reducible exact World.grownBy.refl _ _ | with_reducible exact gw213 | with_reducible refine grownA ?_ | with_reducible refine grownS ?_ ?_ | with_reducible refine grown_drew ?_ | (dsimp only; omega) | (simp; done) | omega))
     case measure =>
      rw [HMS.out]
      simp [go_sem, ↓IntWalk.iteOmega, lenAt, *]; omega
  go_wp2_with (fail)
  refine post_named ?_
  intro V214 hV
  have hkV214 : W105.heap.size ≤ V214.heap.size := by rw [hV]; first | with_reducible exact Nat.le_refl _ | (simp [World.setCell]; done) | (simp; omega)
  have R215 : Hid (FreshA cIv 2 50 (tb + 1) V214 A2 cp2 xs) := hid (by rw [hV]; (repeat' (first | with_reducible exact R112.out | with_reducible refine FreshA.set_at ?_ (by assumption) _ | with_reducible refine FreshA.set_low ?_ ?_ _ | with_reducible refine FreshA.below ?_ (Below.drew (Below.refl _ _)) | with_reducible refine FreshA.below ?_ (Below.alloc (Below.refl _ _) (Nat.le_refl _) _) | (dsimp only; omega) | (simp; done) | (simp; omega))))
  have cu216 : CurS V214 b A cs cap (m + 8 + 1) := by rw [hV]; (repeat' (first | with_reducible refine CurS.setc ?_ ?_ | with_reducible refine CurS.allo ?_ | with_reducible refine CurS.drw ?_ | with_reducible exact cu113 | (dsimp only; omega) | (simp; done) | (simp; omega)))
  have gw217 : w.grownBy V214 (some b) := by rw [hV]; (repeat' (first | with_reducible exact World.grownBy.refl _ _ | with_reducible exact gw114 | with_reducible refine grownA ?_ | with_reducible refine grownS ?_ ?_ | with_reducible refine grown_drew ?_ | (dsimp only; omega) | (simp; done) | omega))
  have hzgw217 := gw217.size
  have hlcu216 := cu216.lt
  clear R112 cu113 gw114
  have r0 : V214.cell? ⟨w.heap.size, 0, none⟩ = some (.int .i64 dx7) := by rw [hV]; first | (simp [go_sem, ↓IntWalk.iteOmega, *]; done) | (simp [go_sem, ↓IntWalk.iteOmega, *]; intros; omega)
  have r1 : V214.cell? ⟨w.heap.size, 1, none⟩ = some (.slice A2 xs.length cp2) := by rw [hV]; first | (simp [go_sem, ↓IntWalk.iteOmega, *]; done) | (simp [go_sem, ↓IntWalk.iteOmega, *]; intros; omega)
  clear hV
  refine bodyPost_ret (v := .agg #[.int .i64 dx7, .slice A2 xs.length cp2]) ?_ rfl ⟨dx7, A2, cp2, xs, rfl, FreshA.mono R215.out (by omega), by omega, by first | omega | (simp; omega), CurS.mono cu216 (by omega), gw217⟩
  simp [results, Try.results73, go_sem, r0, r1]

end Go.Proofs.Yteciijnpfapmhaa
namespace Go.Proofs.Yteciijnpfapmhaa
set_option linter.unusedSimpArgs false
set_option linter.unusedVariables false
open Go.RowKit

theorem below_gw {w w' : World} {b : Nat} (hg : w.grownBy w' (some b)) (hb : w.heap.size ≤ b) : Below w.heap.size w w' := below_row (Below.refl _ _) hg hb (Nat.le_refl _)

set_option maxRecDepth 100000 in
set_option maxHeartbeats 8000000 in
theorem c_spec_DrawMayOpen (A : Option Addr) (cs : List Int) (cap : Nat) (w : World) (hr : Rds cB 1 w A cs) (hby : Bytes cs) (hl : cs.length ≤ 1000000000) :
  Calls Try.prog 77 #[.slice A cs.length cap] w fun e w' => ∃ (d : Int) (Af : Option Addr) (cf : Nat) (xs : List (Int × Int)) (tt : Int), e = .returned (.tuple #[.agg #[.int .i64 d, .slice Af xs.length cf], .int .i64 tt]) ∧ FreshA cIv 2 50 w.heap.size w' Af cf xs ∧ xs.length ≤ 8 ∧ Below w.heap.size w w' := by
 go_enter Try.func77, Try.ntmps77
 go_wp2_with (fail)
 refine calls_named ?_
 intro V1 hV
 have hcu : CurS V1 (w.heap.size + 1) A cs cap 0 := by rw [hV]; exact CurS.new hr (by (repeat' (first | exact Below.refl _ _ | assumption | refine Below.setCell ?_ ?_ _ | refine Below.drew ?_ | refine Below.alloc ?_ ?_ _ | refine Below.trans ?_ (Below.mono (by assumption) ?_) | (simp; done) | (simp; omega) | omega))) (by simp)
 have gw0 : w.grownBy V1 (some (w.heap.size + 1)) := by rw [hV]; (repeat' (first | with_reducible exact World.grownBy.refl _ _ | with_reducible assumption | with_reducible refine grownA ?_ | with_reducible refine grownS ?_ ?_ | with_reducible refine grown_drew ?_ | (dsimp only; omega) | (simp; done) | omega))
 have d218 : V1.cell? ⟨w.heap.size, 0, none⟩ = some (.int .i64 0) := by rw [hV]; first | (simp [go_sem, ↓IntWalk.iteOmega, *]; done) | (simp [go_sem, ↓IntWalk.iteOmega, *]; intros; omega)
 have d219 : V1.cell? ⟨w.heap.size, 1, none⟩ = some (.slice none 0 0) := by rw [hV]; first | (simp [go_sem, ↓IntWalk.iteOmega, *]; done) | (simp [go_sem, ↓IntWalk.iteOmega, *]; intros; omega)
 have e220 : ∀ o, V1.frozen? ⟨w.heap.size, o, none⟩ = false := by rw [hV]; intro o; first | (simp [go_sem, ↓IntWalk.iteOmega, *]; done) | (simp [go_sem, ↓IntWalk.iteOmega, *]; intros; omega)
 clear hV
 have hltb := hcu.lt
 generalize hbd : w.heap.size + 1 = b at *
 refine (c_bridge b A cs cap (0) _ hcu hby (by omega) hl).mono ?_
 rintro e W221 ⟨d, Af, cf, xs, rfl, hFf, hdd, hxl, hcn, hg⟩
 have hkW221 := hg.size
 have c222 : W221.cell? ⟨w.heap.size, 0, none⟩ = some (.int .i64 0) := (cellRow hg (w.heap.size) 0).trans (by rw [if_pos ⟨by omega, by omega⟩]; exact d218)
 have c223 : W221.cell? ⟨w.heap.size, 1, none⟩ = some (.slice none 0 0) := (cellRow hg (w.heap.size) 1).trans (by rw [if_pos ⟨by omega, by omega⟩]; exact d219)
 have z224 : ∀ o, W221.frozen? ⟨w.heap.size, o, none⟩ = false := fun o => (frozRow hg (w.heap.size) o).trans (by rw [if_pos ⟨by omega, by omega⟩]; exact e220 o)
 have cu225 : CurS W221 b A cs cap (0 + 80) := hcn
 have gw226 : w.grownBy W221 (some b) := grown_trans gw0 hg
 have hzgw226 := gw226.size
 have hlcu225 := cu225.lt
 clear d218 d219 e220 gw0
 clear hg
 have S227 : Hid (FreshA cIv 2 50 (V1.heap.size) W221 Af cf xs) := hid (hFf)
 clear hFf
 have hPb : w.heap.size + 1 ≤ V1.heap.size := by omega
 go_wp2_with (fail)
 refine calls_named ?_
 intro V228 hV
 have hkV228 : W221.heap.size ≤ V228.heap.size := by rw [hV]; first | with_reducible exact Nat.le_refl _ | (simp [World.setCell]; done) | (simp; omega)
 have c229 : V228.cell? ⟨w.heap.size, 0, none⟩ = some (.int .i64 0) := by rw [hV]; first | ((repeat' (first | with_reducible exact c222 | with_reducible refine cellK_drew ?_ | with_reducible refine cellK_alloc ?_ | with_reducible refine cellK_set ?_ (by dsimp only; omega))); done) | (first | (simp [go_sem, ↓IntWalk.iteOmega, *]; done) | (simp [go_sem, ↓IntWalk.iteOmega, *]; intros; omega))
 have c230 : V228.cell? ⟨w.heap.size, 1, none⟩ = some (.slice none 0 0) := by rw [hV]; first | ((repeat' (first | with_reducible exact c223 | with_reducible refine cellK_drew ?_ | with_reducible refine cellK_alloc ?_ | with_reducible refine cellK_set ?_ (by dsimp only; omega))); done) | (first | (simp [go_sem, ↓IntWalk.iteOmega, *]; done) | (simp [go_sem, ↓IntWalk.iteOmega, *]; intros; omega))
 have z231 : ∀ o, V228.frozen? ⟨w.heap.size, o, none⟩ = false := by rw [hV]; first | ((repeat' (first | with_reducible exact z224 | with_reducible refine frozK_drew ?_ | with_reducible refine frozK_alloc ?_ | with_reducible refine frozK_set ?_)); done) | (intro o; first | (simp [go_sem, ↓IntWalk.iteOmega, *]; done) | (simp [go_sem, ↓IntWalk.iteOmega, *]; intros; omega))
 have R232 : Hid (FreshA cIv 2 50 (V1.heap.size) V228 Af cf xs) := hid (by rw [hV]; (repeat' (first | with_reducible exact S227.out | with_reducible refine FreshA.set_at ?_ (by assumption) _ | with_reducible refine FreshA.set_low ?_ ?_ _ | with_reducible refine FreshA.below ?_ (Below.drew (Below.refl _ _)) | with_reducible refine FreshA.below ?_ (Below.alloc (Below.refl _ _) (Nat.le_refl _) _) | (dsimp only; omega) | (simp; done) | (simp; omega))))
 have cu233 : CurS V228 b A cs cap (0 + 80) := by rw [hV]; (repeat' (first | with_reducible refine CurS.setc ?_ ?_ | with_reducible refine CurS.allo ?_ | with_reducible refine CurS.drw ?_ | with_reducible exact cu225 | (dsimp only; omega) | (simp; done) | (simp; omega)))
 have gw234 : w.grownBy V228 (some b) := by rw [hV]; (repeat' (first | with_reducible exact World.grownBy.refl _ _ | with_reducible exact gw226 | with_reducible refine grownA ?_ | with_reducible refine grownS ?_ ?_ | with_reducible refine grown_drew ?_ | (dsimp only; omega) | (simp; done) | omega))
 have hzgw234 := gw234.size
 have hlcu233 := cu233.lt
 clear c222 c223 z224 S227 cu225 gw226
 clear hV
 refine (c_minute b A cs cap (0 + 80) _ cu233 hby (by omega) hl).mono ?_
 rintro e W235 ⟨tt, rfl, htt1, htt2, hcn, hg⟩
 have hkW235 := hg.size
 have c236 : W235.cell? ⟨w.heap.size, 0, none⟩ = some (.int .i64 0) := (cellRow hg (w.heap.size) 0).trans (by rw [if_pos ⟨by omega, by omega⟩]; exact c229)
 have c237 : W235.cell? ⟨w.heap.size, 1, none⟩ = some (.slice none 0 0) := (cellRow hg (w.heap.size) 1).trans (by rw [if_pos ⟨by omega, by omega⟩]; exact c230)
 have z238 : ∀ o, W235.frozen? ⟨w.heap.size, o, none⟩ = false := fun o => (frozRow hg (w.heap.size) o).trans (by rw [if_pos ⟨by omega, by omega⟩]; exact z231 o)
 have R239 : Hid (FreshA cIv 2 50 (V1.heap.size) W235 Af cf xs) := hid (FreshA.rowb R232.out hg (by omega))
 have cu240 : CurS W235 b A cs cap (0 + 80 + 2) := hcn
 have gw241 : w.grownBy W235 (some b) := grown_trans gw234 hg
 have hzgw241 := gw241.size
 have hlcu240 := cu240.lt
 clear c229 c230 z231 R232 cu233 gw234
 clear hg
 go_wp2_with (fail)
 refine post_named ?_
 intro VP hV
 have r0 : VP.cell? ⟨w.heap.size, 0, none⟩ = some (.int .i64 d) := by rw [hV]; first | (simp [go_sem, ↓IntWalk.iteOmega, *]; done) | (simp [go_sem, ↓IntWalk.iteOmega, *]; intros; omega)
 have r1 : VP.cell? ⟨w.heap.size, 1, none⟩ = some (.slice Af xs.length cf) := by rw [hV]; first | (simp [go_sem, ↓IntWalk.iteOmega, *]; done) | (simp [go_sem, ↓IntWalk.iteOmega, *]; intros; omega)
 have hkVP : W235.heap.size ≤ VP.heap.size := by rw [hV]; first | with_reducible exact Nat.le_refl _ | (simp [World.setCell]; done) | (simp; omega)
 have R242 : Hid (FreshA cIv 2 50 (V1.heap.size) VP Af cf xs) := hid (by rw [hV]; (repeat' (first | with_reducible exact R239.out | with_reducible refine FreshA.set_at ?_ (by assumption) _ | with_reducible refine FreshA.set_low ?_ ?_ _ | with_reducible refine FreshA.below ?_ (Below.drew (Below.refl _ _)) | with_reducible refine FreshA.below ?_ (Below.alloc (Below.refl _ _) (Nat.le_refl _) _) | (dsimp only; omega) | (simp; done) | (simp; omega))))
 have gw244 : w.grownBy VP (some b) := by rw [hV]; (repeat' (first | with_reducible exact World.grownBy.refl _ _ | with_reducible exact gw241 | with_reducible refine grownA ?_ | with_reducible refine grownS ?_ ?_ | with_reducible refine grown_drew ?_ | (dsimp only; omega) | (simp; done) | omega))
 have hzgw244 := gw244.size
 clear R239 cu240 gw241
 clear hV
 refine bodyPost_ret (v := .tuple #[.agg #[.int .i64 d, .slice Af xs.length cf], .int .i64 tt]) ?_ rfl ⟨d, Af, cf, xs, tt, rfl, FreshA.mono R242.out (by omega), hxl, below_gw gw244 (by omega)⟩
 simp [results, Try.results77, go_sem, r0, r1]

set_option maxRecDepth 100000 in
set_option maxHeartbeats 8000000 in
theorem c_spec_DrawNextOpening (A : Option Addr) (cs : List Int) (cap : Nat) (w : World) (hr : Rds cB 1 w A cs) (hby : Bytes cs) (hl : cs.length ≤ 1000000000) :
  Calls Try.prog 45 #[.slice A cs.length cap] w fun e w' => ∃ (d : Int) (Af : Option Addr) (cf : Nat) (xs : List (Int × Int)) (tt : Int), e = .returned (.tuple #[.agg #[.int .i64 d, .slice Af xs.length cf], .int .i64 tt]) ∧ FreshA cIv 2 50 w.heap.size w' Af cf xs ∧ xs.length ≤ 8 ∧ Below w.heap.size w w' := by
 go_enter Try.func45, Try.ntmps45
 go_wp2_with (fail)
 refine calls_named ?_
 intro V1 hV
 have d0 : V1.cell? ⟨w.heap.size, 0, none⟩ = some (.int .i64 0) := by rw [hV]; first | (simp [go_sem, ↓IntWalk.iteOmega, *]; done) | (simp [go_sem, ↓IntWalk.iteOmega, *]; intros; omega)
 have d1 : V1.cell? ⟨w.heap.size, 1, none⟩ = some (.slice none 0 0) := by rw [hV]; first | (simp [go_sem, ↓IntWalk.iteOmega, *]; done) | (simp [go_sem, ↓IntWalk.iteOmega, *]; intros; omega)
 have hz1 : ∀ o, V1.frozen? ⟨w.heap.size, o, none⟩ = false := by rw [hV]; intro o; first | (simp [go_sem, ↓IntWalk.iteOmega, *]; done) | (simp [go_sem, ↓IntWalk.iteOmega, *]; intros; omega)
 have hl1 : w.heap.size < V1.heap.size := by rw [hV]; simp
 have hb1 : Below w.heap.size w V1 := by rw [hV]; exact Below.alloc (Below.refl _ _) (Nat.le_refl _) _
 clear hV
 refine (c_spec_DrawMayOpen A cs cap V1 (hr.below hb1) hby hl).mono ?_
 rintro e W2 ⟨d, Af, cf, xs, tt, rfl, hFf, hxl, hb2⟩
 have k0 : W2.cell? ⟨w.heap.size, 0, none⟩ = some (.int .i64 0) := (hb2.cell (p := ⟨w.heap.size, 0, none⟩) hl1).trans d0
 have k1 : W2.cell? ⟨w.heap.size, 1, none⟩ = some (.slice none 0 0) := (hb2.cell (p := ⟨w.heap.size, 1, none⟩) hl1).trans d1
 have hz2 : ∀ o, W2.frozen? ⟨w.heap.size, o, none⟩ = false := fun o => (hb2.frozen (p := ⟨w.heap.size, o, none⟩) hl1).trans (hz1 o)
 clear d0 d1 hz1
 have hs2 := hb2.size
 have RA := hid hFf; clear hFf
 have hbb := Below.trans hb1 (Below.mono hb2 (by omega))
 go_wp2_with (fail)
 refine post_named ?_
 intro VP hV
 have r0 : VP.cell? ⟨w.heap.size, 0, none⟩ = some (.int .i64 d) := by rw [hV]; first | (simp [go_sem, ↓IntWalk.iteOmega, *]; done) | (simp [go_sem, ↓IntWalk.iteOmega, *]; intros; omega)
 have r1 : VP.cell? ⟨w.heap.size, 1, none⟩ = some (.slice Af xs.length cf) := by rw [hV]; first | (simp [go_sem, ↓IntWalk.iteOmega, *]; done) | (simp [go_sem, ↓IntWalk.iteOmega, *]; intros; omega)
 have SA : Hid (FreshA cIv 2 50 V1.heap.size VP Af cf xs) := hid (by rw [hV]; (repeat' (first | with_reducible exact RA.out | with_reducible refine FreshA.set_at ?_ (by assumption) _ | with_reducible refine FreshA.set_low ?_ ?_ _ | with_reducible refine FreshA.below ?_ (Below.drew (Below.refl _ _)) | with_reducible refine FreshA.below ?_ (Below.alloc (Below.refl _ _) (Nat.le_refl _) _) | (dsimp only; omega) | (simp; done) | (simp; omega))))
 have hbp : Below w.heap.size w VP := by rw [hV]; repeat' (first | with_reducible exact hbb | with_reducible refine Below.setCell ?_ ?_ _ | with_reducible refine Below.drew ?_ | (dsimp only; omega) | exact Nat.le_refl _)
 clear hV
 refine bodyPost_ret (v := .tuple #[.agg #[.int .i64 d, .slice Af xs.length cf], .int .i64 tt]) ?_ rfl ⟨d, Af, cf, xs, tt, rfl, FreshA.mono SA.out (by omega), hxl, hbp⟩
 simp [results, Try.results45, go_sem, r0, r1]

end Go.Proofs.Yteciijnpfapmhaa
namespace Go.Proofs.Yteciijnpfapmhaa
set_option linter.unusedSimpArgs false
set_option linter.unusedVariables false
open Go.RowKit

def lenOf : Value → Nat | .slice _ n _ => n | _ => 0
theorem FreshA.newq {α : Type} {cf : α → List Value} {sz : Nat} {T : TypeId} {B g : Nat} {w : World} (hg : w.heap.size = g) (hB : B ≤ g) : FreshA cf sz T B (w.alloc (.cells #[] T)) (some ⟨g, 0, none⟩) 0 ([] : List α) := by
 subst hg
 exact .inr ⟨w.heap.size, rfl, hB, #[], heap_alloc_new _ _, by simp, by simp, by unfold maxLen; omega, fun i x h => by simp at h⟩
set_option maxRecDepth 100000 in
set_option maxHeartbeats 16000000 in
theorem c_requestsFor (b : Nat) (A : Option Addr) (cs : List Int) (cap : Nat) (m : Int) (w : World) (hcu : CurS w b A cs cap m) (hby : Bytes cs) (hm : 0 ≤ m ∧ m ≤ 700000000) (hl : cs.length ≤ 1000000000) :
  Calls Try.prog 74 #[.pointer (some ⟨b, 0, none⟩)] w fun e w' => ∃ (A' : Option Addr) (c' : Nat) (rs : List Int), e = .returned (.slice A' rs.length c') ∧ FreshA cIn 1 3 w.heap.size w' A' c' rs ∧ rs.length ≤ 10 ∧ CurS w' b A cs cap (m + 40) ∧ w.grownBy w' (some b) := by
 have hlt0 := hcu.lt
 go_enter Try.func74, Try.ntmps74
 obtain ⟨i0, hI0, hI1, hI2, hI3⟩ := info_parts info_In
 go_wp2_with (fail)
 refine calls_named ?_
 intro V324 hV
 have hkV324 : w.heap.size ≤ V324.heap.size := by rw [hV]; first | with_reducible exact Nat.le_refl _ | (simp [World.setCell]; done) | (simp; omega)
 have cu325 : CurS V324 b A cs cap (m) := by rw [hV]; (repeat' (first | with_reducible refine CurS.setc ?_ ?_ | with_reducible refine CurS.allo ?_ | with_reducible refine CurS.drw ?_ | with_reducible exact hcu | (dsimp only; omega) | (simp; done) | (simp; omega)))
 have gw326 : w.grownBy V324 (some b) := by rw [hV]; (repeat' (first | with_reducible exact World.grownBy.refl _ _ | fail | with_reducible refine grownA ?_ | with_reducible refine grownS ?_ ?_ | with_reducible refine grown_drew ?_ | (dsimp only; omega) | (simp; done) | omega))
 have hzgw326 := gw326.size
 have hlcu325 := cu325.lt
 have S327 : Hid (FreshA cIn 1 3 (w.heap.size) V324 ((some ⟨w.heap.size, 0, none⟩)) 0 (([] : List Int))) := hid (by rw [hV]; first | exact FreshA.newq rfl (Nat.le_refl _) | exact FreshA.below (FreshA.newq rfl (Nat.le_refl _)) (Below.drew (Below.refl _ _)))
 clear hV
 refine (c_pick b A cs cap (m) (7) _ cu325 hby (by omega) hl (by omega)).mono ?_
 rintro e W329 ⟨dx328, rfl, hdx328a, hdx328b, hcn, hg⟩
 have hkW329 := hg.size
 have R330 : Hid (FreshA cIn 1 3 (w.heap.size) W329 ((some ⟨w.heap.size, 0, none⟩)) 0 (([] : List Int))) := hid (FreshA.rowb S327.out hg (by omega))
 have cu331 : CurS W329 b A cs cap (m + 1) := hcn
 have gw332 : w.grownBy W329 (some b) := grown_trans gw326 hg
 have hzgw332 := gw332.size
 have hlcu331 := cu331.lt
 clear S327 cu325 gw326
 clear hg
 obtain ⟨j1, rfl⟩ : ∃ j : Nat, dx328 = j := ⟨dx328.toNat, by omega⟩
 go_wp2_with (fail)
 go_loopw [3, 4, 5] (fun L x i wr => ∃ (j : Nat) (f : Int) (A2 : Option Addr) (cp2 : Nat) (xs : List Int), L = .slice A2 xs.length cp2 ∧ x = .int .i64 f ∧ i = .int .i64 j ∧ (0 ≤ f ∧ f ≤ 200 - 30 * (j : Int)) ∧ xs.length + j ≤ 6 ∧ FreshA cIn 1 3 w.heap.size wr A2 cp2 xs ∧ CurS wr b A cs cap (m + 10 - (j : Int)) ∧ w.grownBy wr (some b)) (fun _ _ i _ => (intOf i).toNat)
 case atStart =>
  exact ⟨j1, 0, _, _, [], rfl, rfl, rfl, by omega, by simp; omega, R330.out, CurS.mono cu331 (by omega), gw332⟩
 case round =>
  obtain ⟨j, f, A2, cp2, xs, rfl, rfl, rfl, hf, hxj, hF, hcr, hgr⟩ := hrel
  have RF := hid hF
  clear hF
  have hgrz := hgr.size
  have hcrl := hcr.lt
  by_cases hj : j = 0
  rotate_left
  ·go_wp2_with (fail)
   refine calls_named ?_
   intro V333 hV
   have hkV333 : wr.heap.size ≤ V333.heap.size := by rw [hV]; first | with_reducible exact Nat.le_refl _ | (simp [World.setCell]; done) | (simp; omega)
   have R334 : Hid (FreshA cIn 1 3 (w.heap.size) V333 A2 cp2 xs) := hid (by rw [hV]; (repeat' (first | with_reducible exact RF.out | with_reducible refine FreshA.set_at ?_ (by assumption) _ | with_reducible refine FreshA.set_low ?_ ?_ _ | with_reducible refine FreshA.below ?_ (Below.drew (Below.refl _ _)) | with_reducible refine FreshA.below ?_ (Below.alloc (Below.refl _ _) (Nat.le_refl _) _) | (dsimp only; omega) | (simp; done) | (simp; omega))))
   have cu335 : CurS V333 b A cs cap (m + 10 - (j : Int)) := by rw [hV]; (repeat' (first | with_reducible refine CurS.setc ?_ ?_ | with_reducible refine CurS.allo ?_ | with_reducible refine CurS.drw ?_ | with_reducible exact hcr | (dsimp only; omega) | (simp; done) | (simp; omega)))
   have gw336 : w.grownBy V333 (some b) := by rw [hV]; (repeat' (first | with_reducible exact World.grownBy.refl _ _ | with_reducible exact hgr | with_reducible refine grownA ?_ | with_reducible refine grownS ?_ ?_ | with_reducible refine grown_drew ?_ | (dsimp only; omega) | (simp; done) | omega))
   have hzgw336 := gw336.size
   have hlcu335 := cu335.lt
   clear RF hcr hgr
   refine (c_among b A cs cap (m + 10 - (j : Int)) _ ([0, 1, 5, 10, 30] : List Int) _ (0) (30) _ cu335 hby (by omega) hl (by rw [hV]; exact Rds.of_lit (by simp) (by intro i x h; rcases i with _ | _ | _ | _ | _ | i <;> simp at h ⊢ <;> first | exact h | omega)) (by simp) (by intro a ha; cases ha; simp; omega) (fun k hk => (show ∀ x ∈ ([0, 1, 5, 10, 30] : List Int), 0 ≤ x ∧ x ≤ 30 by intro x hx; simp at hx; omega) _ (List.getElem_mem hk))).mono ?_
   rintro e W338 ⟨dx337, rfl, hdx337a, hdx337b, hcn, hg⟩
   clear hV
   have hkW338 := hg.size
   have R339 : Hid (FreshA cIn 1 3 (w.heap.size) W338 A2 cp2 xs) := hid (FreshA.rowb R334.out hg (by omega))
   have cu340 : CurS W338 b A cs cap (m + 10 - (j : Int) + 1) := hcn
   have gw341 : w.grownBy W338 (some b) := grown_trans gw336 hg
   have hzgw341 := gw341.size
   have hlcu340 := cu340.lt
   clear R334 cu335 gw336
   clear hg
   go_wp2_with (at_builtin; refine wlist_named ?_)
   intro V342 hV
   have hkV342 : W338.heap.size ≤ V342.heap.size := by rw [hV]; first | with_reducible exact Nat.le_refl _ | (simp [World.setCell]; done) | (simp; omega)
   have R343 : Hid (FreshA cIn 1 3 (w.heap.size) V342 A2 cp2 xs) := hid (by rw [hV]; (repeat' (first | with_reducible exact R339.out | with_reducible refine FreshA.set_at ?_ (by assumption) _ | with_reducible refine FreshA.set_low ?_ ?_ _ | with_reducible refine FreshA.below ?_ (Below.drew (Below.refl _ _)) | with_reducible refine FreshA.below ?_ (Below.alloc (Below.refl _ _) (Nat.le_refl _) _) | (dsimp only; omega) | (simp; done) | (simp; omega))))
   have cu344 : CurS V342 b A cs cap (m + 10 - (j : Int) + 1) := by rw [hV]; (repeat' (first | with_reducible refine CurS.setc ?_ ?_ | with_reducible refine CurS.allo ?_ | with_reducible refine CurS.drw ?_ | with_reducible exact cu340 | (dsimp only; omega) | (simp; done) | (simp; omega)))
   have gw345 : w.grownBy V342 (some b) := by rw [hV]; (repeat' (first | with_reducible exact World.grownBy.refl _ _ | with_reducible exact gw341 | with_reducible refine grownA ?_ | with_reducible refine grownS ?_ ?_ | with_reducible refine grown_drew ?_ | (dsimp only; omega) | (simp; done) | omega))
   have hzgw345 := gw345.size
   have hlcu344 := cu344.lt
   clear R339 cu340 gw341
   refine wpList_pushesR (xs := xs) rfl (.tmp 18) (.tmp 20) 40 rfl 3 i0 _ 8 Try.underlying40 hI0 hI1 hI2 hI3 rfl (by decide) (fun _ => rfl) one_In _ rfl rfl R343.out [f + dx337] 1 rfl _ _ rfl (by rw [hV]; exact Rds.of_lit (by simp) (by intro i x h; rcases i with _ | i <;> simp at h ⊢ <;> first | exact h | omega)) (by unfold maxLen; omega) (by first | omega | (simp; omega)) (by omega) ?_
   intro A5 cp5 W5 hF3 hg3 hat3
   clear hV
   have hkW5 := hg3.size
   have hlo := R343.out.lo
   have R346 : Hid (FreshA cIn 1 3 (w.heap.size) W5 A5 cp5 (xs ++ [f + dx337])) := hid (hF3)
   have cu347 : CurS W5 b A cs cap (m + 10 - (j : Int) + 1) := CurS.other cu344 hg3 hlo (by omega)
   have gw348 : w.grownBy W5 (some b) := grown_other gw345 hg3 (hlo.mono (by omega))
   have hzgw348 := gw348.size
   have hlcu347 := cu347.lt
   clear R343 cu344 gw345
   clear hlo
   clear hF3 hg3 hat3
   have hl5 : (xs ++ [f + dx337]).length = xs.length + 1 := by simp
   go_wp2_with (fail)
   go_roundw
   case rel =>
    refine ⟨j - 1, f + dx337, A5, cp5, xs ++ [f + dx337], by first | rfl | (rw [hl5]; done) | (simp; done), rfl, by first | rfl | go_num | (congr 1; omega), by omega, by simp; omega, ?_, ?_, ?_⟩
    ·(repeat' (first | with_reducible exact R346.out | with_reducible refine FreshA.set_at ?_ (by assumption) _ | with_reducible refine FreshA.set_low ?_ ?_ _ | with_reducible refine FreshA.below ?_ (Below.drew (Below.refl _ _)) | with_reducible refine FreshA.below ?_ (Below.alloc (Below.refl _ _) (Nat.le_refl _) _) | (dsimp only; omega) | (simp; done) | (simp; omega)))
    ·refine CurS.mono ?_ (m := m + 10 - (j : Int) + 1) (by first | omega | (simp; omega))
     (repeat' (first | with_reducible refine CurS.setc ?_ ?_ | with_reducible refine CurS.allo ?_ | with_reducible refine CurS.drw ?_ | with_reducible exact cu347 | (dsimp only; omega) | (simp; done) | (simp; omega)))
    ·(repeat' (first | with_reducible exact World.grownBy.refl _ _ | with_reducible exact gw348 | with_reducible refine grownA ?_ | with_reducible refine grownS ?_ ?_ | with_reducible refine grown_drew ?_ | (dsimp only; omega) | (simp; done) | omega))
   case measure => simp [intOf]; omega
  subst hj
  simp only [Nat.add_zero] at hxj
  have hcs : CurS wr b A cs cap (m + 10) := CurS.mono hcr (by omega)
  go_wp2_with (fail)
  refine calls_named ?_
  intro V349 hV
  have hkV349 : wr.heap.size ≤ V349.heap.size := by rw [hV]; first | with_reducible exact Nat.le_refl _ | (simp [World.setCell]; done) | (simp; omega)
  have R350 : Hid (FreshA cIn 1 3 (w.heap.size) V349 A2 cp2 xs) := hid (by rw [hV]; (repeat' (first | with_reducible exact RF.out | with_reducible refine FreshA.set_at ?_ (by assumption) _ | with_reducible refine FreshA.set_low ?_ ?_ _ | with_reducible refine FreshA.below ?_ (Below.drew (Below.refl _ _)) | with_reducible refine FreshA.below ?_ (Below.alloc (Below.refl _ _) (Nat.le_refl _) _) | (dsimp only; omega) | (simp; done) | (simp; omega))))
  have cu351 : CurS V349 b A cs cap (m + 10) := by rw [hV]; (repeat' (first | with_reducible refine CurS.setc ?_ ?_ | with_reducible refine CurS.allo ?_ | with_reducible refine CurS.drw ?_ | with_reducible exact hcs | (dsimp only; omega) | (simp; done) | (simp; omega)))
  have gw352 : w.grownBy V349 (some b) := by rw [hV]; (repeat' (first | with_reducible exact World.grownBy.refl _ _ | with_reducible exact hgr | with_reducible refine grownA ?_ | with_reducible refine grownS ?_ ?_ | with_reducible refine grown_drew ?_ | (dsimp only; omega) | (simp; done) | omega))
  have hzgw352 := gw352.size
  have hlcu351 := cu351.lt
  clear RF hcs hgr
  clear hV
  refine (c_pick b A cs cap (m + 10) (24) _ cu351 hby (by omega) hl (by omega)).mono ?_
  rintro e W354 ⟨dx353, rfl, hdx353a, hdx353b, hcn, hg⟩
  have hkW354 := hg.size
  have R355 : Hid (FreshA cIn 1 3 (w.heap.size) W354 A2 cp2 xs) := hid (FreshA.rowb R350.out hg (by omega))
  have cu356 : CurS W354 b A cs cap (m + 10 + 1) := hcn
  have gw357 : w.grownBy W354 (some b) := grown_trans gw352 hg
  have hzgw357 := gw357.size
  have hlcu356 := cu356.lt
  clear R350 cu351 gw352
  clear hg
  by_cases hq : dx353 = 0
  ·subst hq
   go_wp2_with (fail)
   refine calls_named ?_
   intro V358 hV
   have hkV358 : W354.heap.size ≤ V358.heap.size := by rw [hV]; first | with_reducible exact Nat.le_refl _ | (simp [World.setCell]; done) | (simp; omega)
   have R359 : Hid (FreshA cIn 1 3 (w.heap.size) V358 A2 cp2 xs) := hid (by rw [hV]; (repeat' (first | with_reducible exact R355.out | with_reducible refine FreshA.set_at ?_ (by assumption) _ | with_reducible refine FreshA.set_low ?_ ?_ _ | with_reducible refine FreshA.below ?_ (Below.drew (Below.refl _ _)) | with_reducible refine FreshA.below ?_ (Below.alloc (Below.refl _ _) (Nat.le_refl _) _) | (dsimp only; omega) | (simp; done) | (simp; omega))))
   have cu360 : CurS V358 b A cs cap (m + 10 + 1) := by rw [hV]; (repeat' (first | with_reducible refine CurS.setc ?_ ?_ | with_reducible refine CurS.allo ?_ | with_reducible refine CurS.drw ?_ | with_reducible exact cu356 | (dsimp only; omega) | (simp; done) | (simp; omega)))
   have gw361 : w.grownBy V358 (some b) := by rw [hV]; (repeat' (first | with_reducible exact World.grownBy.refl _ _ | with_reducible exact gw357 | with_reducible refine grownA ?_ | with_reducible refine grownS ?_ ?_ | with_reducible refine grown_drew ?_ | (dsimp only; omega) | (simp; done) | omega))
   have hzgw361 := gw361.size
   have hlcu360 := cu360.lt
   clear R355 cu356 gw357
   refine (c_among b A cs cap (m + 10 + 1) _ ([0, 9999, 10000] : List Int) _ (0) (10000) _ cu360 hby (by omega) hl (by rw [hV]; exact Rds.of_lit (by simp) (by intro i x h; rcases i with _ | _ | _ | i <;> simp at h ⊢ <;> first | exact h | omega)) (by simp) (by intro a ha; cases ha; simp; omega) (fun k hk => (show ∀ x ∈ ([0, 9999, 10000] : List Int), 0 ≤ x ∧ x ≤ 10000 by intro x hx; simp at hx; omega) _ (List.getElem_mem hk))).mono ?_
   rintro e W363 ⟨dx362, rfl, hdx362a, hdx362b, hcn, hg⟩
   clear hV
   have hkW363 := hg.size
   have R364 : Hid (FreshA cIn 1 3 (w.heap.size) W363 A2 cp2 xs) := hid (FreshA.rowb R359.out hg (by omega))
   have cu365 : CurS W363 b A cs cap (m + 10 + 1 + 1) := hcn
   have gw366 : w.grownBy W363 (some b) := grown_trans gw361 hg
   have hzgw366 := gw366.size
   have hlcu365 := cu365.lt
   clear R359 cu360 gw361
   clear hg
   go_wp2_with (at_builtin; refine wlist_named ?_)
   intro V367 hV
   have hkV367 : W363.heap.size ≤ V367.heap.size := by rw [hV]; first | with_reducible exact Nat.le_refl _ | (simp [World.setCell]; done) | (simp; omega)
   have R368 : Hid (FreshA cIn 1 3 (w.heap.size) V367 A2 cp2 xs) := hid (by rw [hV]; (repeat' (first | with_reducible exact R364.out | with_reducible refine FreshA.set_at ?_ (by assumption) _ | with_reducible refine FreshA.set_low ?_ ?_ _ | with_reducible refine FreshA.below ?_ (Below.drew (Below.refl _ _)) | with_reducible refine FreshA.below ?_ (Below.alloc (Below.refl _ _) (Nat.le_refl _) _) | (dsimp only; omega) | (simp; done) | (simp; omega))))
   have cu369 : CurS V367 b A cs cap (m + 10 + 1 + 1) := by rw [hV]; (repeat' (first | with_reducible refine CurS.setc ?_ ?_ | with_reducible refine CurS.allo ?_ | with_reducible refine CurS.drw ?_ | with_reducible exact cu365 | (dsimp only; omega) | (simp; done) | (simp; omega)))
   have gw370 : w.grownBy V367 (some b) := by rw [hV]; (repeat' (first | with_reducible exact World.grownBy.refl _ _ | with_reducible exact gw366 | with_reducible refine grownA ?_ | with_reducible refine grownS ?_ ?_ | with_reducible refine grown_drew ?_ | (dsimp only; omega) | (simp; done) | omega))
   have hzgw370 := gw370.size
   have hlcu369 := cu369.lt
   clear R364 cu365 gw366
   refine wpList_pushesR (xs := xs) rfl (.tmp 26) (.tmp 30) 40 rfl 3 i0 _ 8 Try.underlying40 hI0 hI1 hI2 hI3 rfl (by decide) (fun _ => rfl) one_In _ rfl rfl R368.out [dx362] 1 rfl _ _ rfl (by rw [hV]; exact Rds.of_lit (by simp) (by intro i x h; rcases i with _ | i <;> simp at h ⊢ <;> first | exact h | omega)) (by unfold maxLen; omega) (by first | omega | (simp; omega)) (by omega) ?_
   intro A5 cp5 W5 hF3 hg3 hat3
   clear hV
   have hkW5 := hg3.size
   have hlo := R368.out.lo
   have R371 : Hid (FreshA cIn 1 3 (w.heap.size) W5 A5 cp5 (xs ++ [dx362])) := hid (hF3)
   have cu372 : CurS W5 b A cs cap (m + 10 + 1 + 1) := CurS.other cu369 hg3 hlo (by omega)
   have gw373 : w.grownBy W5 (some b) := grown_other gw370 hg3 (hlo.mono (by omega))
   have hzgw373 := gw373.size
   have hlcu372 := cu372.lt
   clear R368 cu369 gw370
   clear hlo
   clear hF3 hg3 hat3
   have hl5 : (xs ++ [dx362]).length = xs.length + 1 := by simp
   go_wp2_with (fail)
   refine post_named ?_
   intro V374 hV
   have hkV374 : W5.heap.size ≤ V374.heap.size := by rw [hV]; first | with_reducible exact Nat.le_refl _ | (simp [World.setCell]; done) | (simp; omega)
   have R375 : Hid (FreshA cIn 1 3 (w.heap.size) V374 A5 cp5 (xs ++ [dx362])) := hid (by rw [hV]; (repeat' (first | with_reducible exact R371.out | with_reducible refine FreshA.set_at ?_ (by assumption) _ | with_reducible refine FreshA.set_low ?_ ?_ _ | with_reducible refine FreshA.below ?_ (Below.drew (Below.refl _ _)) | with_reducible refine FreshA.below ?_ (Below.alloc (Below.refl _ _) (Nat.le_refl _) _) | (dsimp only; omega) | (simp; done) | (simp; omega))))
   have cu376 : CurS V374 b A cs cap (m + 10 + 1 + 1) := by rw [hV]; (repeat' (first | with_reducible refine CurS.setc ?_ ?_ | with_reducible refine CurS.allo ?_ | with_reducible refine CurS.drw ?_ | with_reducible exact cu372 | (dsimp only; omega) | (simp; done) | (simp; omega)))
   have gw377 : w.grownBy V374 (some b) := by rw [hV]; (repeat' (first | with_reducible exact World.grownBy.refl _ _ | with_reducible exact gw373 | with_reducible refine grownA ?_ | with_reducible refine grownS ?_ ?_ | with_reducible refine grown_drew ?_ | (dsimp only; omega) | (simp; done) | omega))
   have hzgw377 := gw377.size
   have hlcu376 := cu376.lt
   clear R371 cu372 gw373
   clear hV
   refine bodyPost_ret (v := .slice A5 ((xs ++ [dx362])).length cp5) ?_ rfl ⟨A5, cp5, ((xs ++ [dx362])), rfl, FreshA.mono R375.out (by omega), by first | omega | (simp; omega), CurS.mono cu376 (by omega), gw377⟩
   simp [results, Try.results74, go_sem]
  by_cases hq : dx353 = 1
  ·subst hq
   go_wp2_with (fail)
   go_loopw [3] (fun L wr => ∃ (A2 : Option Addr) (cp2 : Nat) (xs : List Int), L = .slice A2 xs.length cp2 ∧ xs.length ≤ 9 ∧ FreshA cIn 1 3 w.heap.size wr A2 cp2 xs ∧ CurS wr b A cs cap (m + 11 + (xs.length : Int)) ∧ w.grownBy wr (some b)) (fun L _ => 12 - lenOf L)
   case atStart =>
    exact ⟨A2, cp2, xs, rfl, by omega, R355.out, CurS.mono cu356 (by omega), gw357⟩
   case round =>
    obtain ⟨A2, cp2, xs, rfl, hx7, hF, hcr, hgr⟩ := hrel
    have RF := hid hF
    clear hF
    have hgrz := hgr.size
    have hcrl := hcr.lt
    go_wp2_with (fail)
    refine calls_named ?_
    intro V378 hV
    have hkV378 : wr.heap.size ≤ V378.heap.size := by rw [hV]; first | with_reducible exact Nat.le_refl _ | (simp [World.setCell]; done) | (simp; omega)
    have R379 : Hid (FreshA cIn 1 3 (w.heap.size) V378 A2 cp2 xs) := hid (by rw [hV]; (repeat' (first | with_reducible exact RF.out | with_reducible refine FreshA.set_at ?_ (by assumption) _ | with_reducible refine FreshA.set_low ?_ ?_ _ | with_reducible refine FreshA.below ?_ (Below.drew (Below.refl _ _)) | with_reducible refine FreshA.below ?_ (Below.alloc (Below.refl _ _) (Nat.le_refl _) _) | (dsimp only; omega) | (simp; done) | (simp; omega))))
    have cu380 : CurS V378 b A cs cap (m + 11 + (xs.length : Int)) := by rw [hV]; (repeat' (first | with_reducible refine CurS.setc ?_ ?_ | with_reducible refine CurS.allo ?_ | with_reducible refine CurS.drw ?_ | with_reducible exact hcr | (dsimp only; omega) | (simp; done) | (simp; omega)))
    have gw381 : w.grownBy V378 (some b) := by rw [hV]; (repeat' (first | with_reducible exact World.grownBy.refl _ _ | with_reducible exact hgr | with_reducible refine grownA ?_ | with_reducible refine grownS ?_ ?_ | with_reducible refine grown_drew ?_ | (dsimp only; omega) | (simp; done) | omega))
    have hzgw381 := gw381.size
    have hlcu380 := cu380.lt
    clear RF hcr hgr
    clear hV
    refine (c_pick b A cs cap (m + 11 + (xs.length : Int)) (2) _ cu380 hby (by omega) hl (by omega)).mono ?_
    rintro e W383 ⟨dx382, rfl, hdx382a, hdx382b, hcn, hg⟩
    have hkW383 := hg.size
    have R384 : Hid (FreshA cIn 1 3 (w.heap.size) W383 A2 cp2 xs) := hid (FreshA.rowb R379.out hg (by omega))
    have cu385 : CurS W383 b A cs cap (m + 11 + (xs.length : Int) + 1) := hcn
    have gw386 : w.grownBy W383 (some b) := grown_trans gw381 hg
    have hzgw386 := gw386.size
    have hlcu385 := cu385.lt
    clear R379 cu380 gw381
    clear hg
    by_cases hlt : (xs.length : Int) < 8 + dx382
    rotate_left
    ·go_wp2_with (fail)
     refine post_named ?_
     intro V387 hV
     have hkV387 : W383.heap.size ≤ V387.heap.size := by rw [hV]; first | with_reducible exact Nat.le_refl _ | (simp [World.setCell]; done) | (simp; omega)
     have R388 : Hid (FreshA cIn 1 3 (w.heap.size) V387 A2 cp2 xs) := hid (by rw [hV]; (repeat' (first | with_reducible exact R384.out | with_reducible refine FreshA.set_at ?_ (by assumption) _ | with_reducible refine FreshA.set_low ?_ ?_ _ | with_reducible refine FreshA.below ?_ (Below.drew (Below.refl _ _)) | with_reducible refine FreshA.below ?_ (Below.alloc (Below.refl _ _) (Nat.le_refl _) _) | (dsimp only; omega) | (simp; done) | (simp; omega))))
     have cu389 : CurS V387 b A cs cap (m + 11 + (xs.length : Int) + 1) := by rw [hV]; (repeat' (first | with_reducible refine CurS.setc ?_ ?_ | with_reducible refine CurS.allo ?_ | with_reducible refine CurS.drw ?_ | with_reducible exact cu385 | (dsimp only; omega) | (simp; done) | (simp; omega)))
     have gw390 : w.grownBy V387 (some b) := by rw [hV]; (repeat' (first | with_reducible exact World.grownBy.refl _ _ | with_reducible exact gw386 | with_reducible refine grownA ?_ | with_reducible refine grownS ?_ ?_ | with_reducible refine grown_drew ?_ | (dsimp only; omega) | (simp; done) | omega))
     have hzgw390 := gw390.size
     have hlcu389 := cu389.lt
     clear R384 cu385 gw386
     clear hV
     refine bodyPost_ret (v := .slice A2 xs.length cp2) ?_ rfl ⟨A2, cp2, xs, rfl, FreshA.mono R388.out (by omega), by first | omega | (simp; omega), CurS.mono cu389 (by omega), gw390⟩
     simp [results, Try.results74, go_sem]
    go_wp2_with (at_builtin; refine wlist_named ?_)
    intro V391 hV
    have hkV391 : W383.heap.size ≤ V391.heap.size := by rw [hV]; first | with_reducible exact Nat.le_refl _ | (simp [World.setCell]; done) | (simp; omega)
    have R392 : Hid (FreshA cIn 1 3 (w.heap.size) V391 A2 cp2 xs) := hid (by rw [hV]; (repeat' (first | with_reducible exact R384.out | with_reducible refine FreshA.set_at ?_ (by assumption) _ | with_reducible refine FreshA.set_low ?_ ?_ _ | with_reducible refine FreshA.below ?_ (Below.drew (Below.refl _ _)) | with_reducible refine FreshA.below ?_ (Below.alloc (Below.refl _ _) (Nat.le_refl _) _) | (dsimp only; omega) | (simp; done) | (simp; omega))))
    have cu393 : CurS V391 b A cs cap (m + 11 + (xs.length : Int) + 1) := by rw [hV]; (repeat' (first | with_reducible refine CurS.setc ?_ ?_ | with_reducible refine CurS.allo ?_ | with_reducible refine CurS.drw ?_ | with_reducible exact cu385 | (dsimp only; omega) | (simp; done) | (simp; omega)))
    have gw394 : w.grownBy V391 (some b) := by rw [hV]; (repeat' (first | with_reducible exact World.grownBy.refl _ _ | with_reducible exact gw386 | with_reducible refine grownA ?_ | with_reducible refine grownS ?_ ?_ | with_reducible refine grown_drew ?_ | (dsimp only; omega) | (simp; done) | omega))
    have hzgw394 := gw394.size
    have hlcu393 := cu393.lt
    clear R384 cu385 gw386
    refine wpList_pushesR (xs := xs) rfl (.tmp 40) (.tmp 42) 40 rfl 3 i0 _ 8 Try.underlying40 hI0 hI1 hI2 hI3 rfl (by decide) (fun _ => rfl) one_In _ rfl rfl R392.out [f] 1 rfl _ _ rfl (by rw [hV]; exact Rds.of_lit (by simp) (by intro i x h; rcases i with _ | i <;> simp at h ⊢ <;> first | exact h | omega)) (by unfold maxLen; omega) (by first | omega | (simp; omega)) (by omega) ?_
    intro A5 cp5 W6 hF3 hg3 hat3
    clear hV
    have hkW6 := hg3.size
    have hlo := R392.out.lo
    have R395 : Hid (FreshA cIn 1 3 (w.heap.size) W6 A5 cp5 (xs ++ [f])) := hid (hF3)
    have cu396 : CurS W6 b A cs cap (m + 11 + (xs.length : Int) + 1) := CurS.other cu393 hg3 hlo (by omega)
    have gw397 : w.grownBy W6 (some b) := grown_other gw394 hg3 (hlo.mono (by omega))
    have hzgw397 := gw397.size
    have hlcu396 := cu396.lt
    clear R392 cu393 gw394
    clear hlo
    clear hF3 hg3 hat3
    have hl5 : (xs ++ [f]).length = xs.length + 1 := by simp
    go_wp2_with (fail)
    go_roundw
    case rel =>
     refine ⟨A5, cp5, xs ++ [f], by first | rfl | (rw [hl5]; done) | (simp; done), by simp; omega, ?_, ?_, ?_⟩
     ·(repeat' (first | with_reducible exact R395.out | with_reducible refine FreshA.set_at ?_ (by assumption) _ | with_reducible refine FreshA.set_low ?_ ?_ _ | with_reducible refine FreshA.below ?_ (Below.drew (Below.refl _ _)) | with_reducible refine FreshA.below ?_ (Below.alloc (Below.refl _ _) (Nat.le_refl _) _) | (dsimp only; omega) | (simp; done) | (simp; omega)))
     ·refine CurS.mono ?_ (m := m + 11 + (xs.length : Int) + 1) (by first | omega | (simp; omega))
      (repeat' (first | with_reducible refine CurS.setc ?_ ?_ | with_reducible refine CurS.allo ?_ | with_reducible refine CurS.drw ?_ | with_reducible exact cu396 | (dsimp only; omega) | (simp; done) | (simp; omega)))
     ·(repeat' (first | with_reducible exact World.grownBy.refl _ _ | with_reducible exact gw397 | with_reducible refine grownA ?_ | with_reducible refine grownS ?_ ?_ | with_reducible refine grown_drew ?_ | (dsimp only; omega) | (simp; done) | omega))
    case measure => simp [lenOf]; omega
  go_wp2_with (fail)
  refine post_named ?_
  intro V398 hV
  have hkV398 : W354.heap.size ≤ V398.heap.size := by rw [hV]; first | with_reducible exact Nat.le_refl _ | (simp [World.setCell]; done) | (simp; omega)
  have R399 : Hid (FreshA cIn 1 3 (w.heap.size) V398 A2 cp2 xs) := hid (by rw [hV]; (repeat' (first | with_reducible exact R355.out | with_reducible refine FreshA.set_at ?_ (by assumption) _ | with_reducible refine FreshA.set_low ?_ ?_ _ | with_reducible refine FreshA.below ?_ (Below.drew (Below.refl _ _)) | with_reducible refine FreshA.below ?_ (Below.alloc (Below.refl _ _) (Nat.le_refl _) _) | (dsimp only; omega) | (simp; done) | (simp; omega))))
  have cu400 : CurS V398 b A cs cap (m + 10 + 1) := by rw [hV]; (repeat' (first | with_reducible refine CurS.setc ?_ ?_ | with_reducible refine CurS.allo ?_ | with_reducible refine CurS.drw ?_ | with_reducible exact cu356 | (dsimp only; omega) | (simp; done) | (simp; omega)))
  have gw401 : w.grownBy V398 (some b) := by rw [hV]; (repeat' (first | with_reducible exact World.grownBy.refl _ _ | with_reducible exact gw357 | with_reducible refine grownA ?_ | with_reducible refine grownS ?_ ?_ | with_reducible refine grown_drew ?_ | (dsimp only; omega) | (simp; done) | omega))
  have hzgw401 := gw401.size
  have hlcu400 := cu400.lt
  clear R355 cu356 gw357
  clear hV
  refine bodyPost_ret (v := .slice A2 xs.length cp2) ?_ rfl ⟨A2, cp2, xs, rfl, FreshA.mono R399.out (by omega), by first | omega | (simp; omega), CurS.mono cu400 (by omega), gw401⟩
  simp [results, Try.results74, go_sem]

set_option maxRecDepth 100000 in
set_option maxHeartbeats 16000000 in
theorem c_patience (b : Nat) (A : Option Addr) (cs : List Int) (cap : Nat) (m : Int) (w : World) (hcu : CurS w b A cs cap m) (hby : Bytes cs) (hm : 0 ≤ m ∧ m ≤ 700000000) (hl : cs.length ≤ 1000000000) :
  Calls Try.prog 75 #[.pointer (some ⟨b, 0, none⟩)] w fun e w' => ∃ x : Int, e = .returned (.int .i64 x) ∧ -1 ≤ x ∧ x ≤ 121 ∧ CurS w' b A cs cap (m + 1) ∧ w.grownBy w' (some b) := by
 have hlt0 := hcu.lt
 go_enter Try.func75, Try.ntmps75
 go_wp2_with (fail)
 refine calls_named ?_
 intro V402 hV
 have hkV402 : w.heap.size ≤ V402.heap.size := by rw [hV]; first | with_reducible exact Nat.le_refl _ | (simp [World.setCell]; done) | (simp; omega)
 have cu403 : CurS V402 b A cs cap (m) := by rw [hV]; (repeat' (first | with_reducible refine CurS.setc ?_ ?_ | with_reducible refine CurS.allo ?_ | with_reducible refine CurS.drw ?_ | with_reducible exact hcu | (dsimp only; omega) | (simp; done) | (simp; omega)))
 have gw404 : w.grownBy V402 (some b) := by rw [hV]; (repeat' (first | with_reducible exact World.grownBy.refl _ _ | fail | with_reducible refine grownA ?_ | with_reducible refine grownS ?_ ?_ | with_reducible refine grown_drew ?_ | (dsimp only; omega) | (simp; done) | omega))
 have hzgw404 := gw404.size
 have hlcu403 := cu403.lt
 refine (c_among b A cs cap (m) _ ([0, 5, 10, 20, 40, 120, 30, 121, -1, 15] : List Int) _ (-1) (121) _ cu403 hby (by omega) hl (by rw [hV]; exact Rds.of_lit (by simp) (by intro i x h; rcases i with _ | _ | _ | _ | _ | _ | _ | _ | _ | _ | i <;> simp at h ⊢ <;> first | exact h | omega)) (by simp) (by intro a ha; cases ha; simp; omega) (fun k hk => (show ∀ x ∈ ([0, 5, 10, 20, 40, 120, 30, 121, -1, 15] : List Int), -1 ≤ x ∧ x ≤ 121 by intro x hx; simp at hx; omega) _ (List.getElem_mem hk))).mono ?_
 rintro e W406 ⟨dx405, rfl, hdx405a, hdx405b, hcn, hg⟩
 clear hV
 have hkW406 := hg.size
 have cu407 : CurS W406 b A cs cap (m + 1) := hcn
 have gw408 : w.grownBy W406 (some b) := grown_trans gw404 hg
 have hzgw408 := gw408.size
 have hlcu407 := cu407.lt
 clear cu403 gw404
 clear hg
 go_wp2_with (fail)
 go_ret
 exact ⟨dx405, rfl, by omega, by omega, CurS.mono (m := m + 1) (by (repeat' (first | with_reducible refine CurS.setc ?_ ?_ | with_reducible refine CurS.allo ?_ | with_reducible refine CurS.drw ?_ | with_reducible exact cu407 | (dsimp only; omega) | (simp; done) | (simp; omega)))) (by omega), by (repeat' (first | with_reducible exact World.grownBy.refl _ _ | with_reducible exact gw408 | with_reducible refine grownA ?_ | with_reducible refine grownS ?_ ?_ | with_reducible refine grown_drew ?_ | (dsimp only; omega) | (simp; done) | omega))⟩

end Go.Proofs.Yteciijnpfapmhaa
