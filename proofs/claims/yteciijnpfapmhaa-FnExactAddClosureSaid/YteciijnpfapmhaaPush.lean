import Derived.Test.YteciijnpfapmhaaSl
namespace Go.Proofs.Yteciijnpfapmhaa
set_option linter.unusedSimpArgs false
set_option linter.unusedVariables false
open Go.RowKit

section
variable {α : Type} {cf : α → List Value} {sz : Nat} {T : TypeId} {w w' : World} {A : Option Addr} {xs : List α} {g cap B : Nat}
theorem flatMap_src (hcf : ∀ x, (cf x).length = sz) (hsz : 0 < sz) {ys : List α} {ga oa : Nat} (hn : ∀ i (hi : i < ys.length) j u, (cf ys[i])[j]? = some u → w.cell? ⟨ga, oa + i * sz + j, none⟩ = some u) :
    ∀ j u, (ys.flatMap cf)[j]? = some u → w.cell? ((⟨ga, oa, none⟩ : Addr).add j) = some u := by
  intro p u hp
  have hpl : p < ys.length * sz := by
    rcases Nat.lt_or_ge p (ys.flatMap cf).length with hl | hl
    · rwa [flatMap_len hcf] at hl
    · rw [List.getElem?_eq_none hl] at hp; cases hp
  have hi : p / sz < ys.length := Nat.div_lt_of_lt_mul (by rw [Nat.mul_comm]; exact hpl)
  have hj : p % sz < sz := Nat.mod_lt _ hsz
  have e : p / sz * sz + p % sz = p := by rw [Nat.mul_comm]; exact Nat.div_add_mod p sz
  have hx : ys[p / sz]? = some ys[p / sz] := List.getElem?_eq_getElem hi
  have h7 := flatMap_at hcf ys _ _ _ hx hj
  rw [e, hp] at h7
  have h8 := hn _ hi _ _ h7.symm
  have e2 : (⟨ga, oa, none⟩ : Addr).add p = ⟨ga, oa + p, none⟩ := by
    unfold Addr.add
    by_cases h0 : p = 0 <;> simp [h0]
  rw [e2]
  rwa [show oa + p / sz * sz + p % sz = oa + p by omega] at h8
/-- 'append(s, ys...)' on a slice of the call's own -/
theorem wp_pushes {P : Program} {o : Oper} {a : Act} {K : Act → World → Prop} {Q : Exit → Act → World → Prop} (s x : Operand) (t : TypeId)
    (ho : o.op = .call { callee := .builtin .append, args := #[s, x], argTypes := #[t, t] })
    (e : TypeId) (i : TypeInfo) (z : Value) (bytes : Nat) (ht : P.underlying t = some (.slice e)) (hi : P.info? e = some i) (hz : i.zero = some z)
    (hsize : i.size = sz) (hby : i.bytes = bytes) (hzs : z.cells.size = sz) (hsz : 0 < sz) (hcf : ∀ x, (cf x).length = sz) (hone : ∀ x, ∀ u ∈ cf x, u.oneCell' = true)
    (n : Nat) (hn : xs.length = n) (hs : a.eval s = .slice A n cap) (hF : FreshA cf sz e B w A cap xs)
    (ys : List α) (m : Nat) (hm : ys.length = m) (ga oa c : Nat) (hx : a.eval x = .slice (some ⟨ga, oa, none⟩) m c) (hnews : ∀ i (hi : i < ys.length) j u, (cf ys[i])[j]? = some u → w.cell? ⟨ga, oa + i * sz + j, none⟩ = some u)
    (h63 : n + m ≤ maxLen) (hbytes : (n + m) * bytes ≤ 140737488355328) (hbase : B ≤ w.heap.size)
    (h : ∀ A' cap' w', FreshA cf sz e B w' A' cap' (xs ++ ys) → w.grownBy w' (blkO A) → (blkO A' = blkO A ∨ blkO A' = some w.heap.size) → K (a.put o.dst (.slice A' (n + m) cap')) w') : o.wp P a w K Q := by
  subst hn hm
  have hown := hF.own hcf hsz
  obtain ⟨v', w', hrun, hown', hg, _, hat⟩ := run_append_own_at (P := P) w B t o.type e i z sz bytes ht hi hz hsize hby hzs hsz _ _ _ hown ⟨ga, oa, none⟩ ys.length c (ys.flatMap cf) (flatMap_len hcf ys) (flatMap_src hcf hsz hnews) (fun u hu => by
    obtain ⟨y, _, hy⟩ := List.mem_flatMap.1 hu
    exact hone y u hy) h63 hbytes hbase
  unfold Oper.wp execOp
  simp only [ho, resolve, invoke, builtin, Sem.run_bind, Sem.run_pure, Result.andThen_ok, List.map_toArray, List.map_cons, List.map_nil, hs, hx, hrun]
  have hl : (xs ++ ys).length = xs.length + ys.length := by simp
  have hown2 : w'.ownsRow B e sz v' (xs ++ ys).length ((xs ++ ys).flatMap cf) := by
    rw [hl, List.flatMap_append]
    exact hown'
  obtain ⟨A', cap', rfl, hF'⟩ := FreshA.of_own hcf hown2
  have hb : ∀ (A : Option Addr) (n c : Nat), (Value.slice A n c).ownBlock = blkO A := fun A n c => by cases A <;> rfl
  rw [hb] at hg
  rw [hb, hb] at hat
  have := h A' cap' w' hF' hg hat
  rw [hl]
  exact this
theorem wpList_pushes {P : Program} {ops : Array Oper} {rest : List Oper} {o : Oper} {a : Act} {Q : Exit → Act → World → Prop} (hgd : o.guard = none) (s x : Operand) (t : TypeId)
    (ho : o.op = .call { callee := .builtin .append, args := #[s, x], argTypes := #[t, t] })
    (e : TypeId) (i : TypeInfo) (z : Value) (bytes : Nat) (ht : P.underlying t = some (.slice e)) (hi : P.info? e = some i) (hz : i.zero = some z)
    (hsize : i.size = sz) (hby : i.bytes = bytes) (hzs : z.cells.size = sz) (hsz : 0 < sz) (hcf : ∀ x, (cf x).length = sz) (hone : ∀ x, ∀ u ∈ cf x, u.oneCell' = true)
    (n : Nat) (hn : xs.length = n) (hs : a.eval s = .slice A n cap) (hF : FreshA cf sz e B w A cap xs)
    (ys : List α) (m : Nat) (hm : ys.length = m) (ga oa c : Nat) (hx : a.eval x = .slice (some ⟨ga, oa, none⟩) m c) (hnews : ∀ i (hi : i < ys.length) j u, (cf ys[i])[j]? = some u → w.cell? ⟨ga, oa + i * sz + j, none⟩ = some u)
    (h63 : n + m ≤ maxLen) (hbytes : (n + m) * bytes ≤ 140737488355328) (hbase : B ≤ w.heap.size)
    (h : ∀ A' cap' w', FreshA cf sz e B w' A' cap' (xs ++ ys) → w.grownBy w' (blkO A) → (blkO A' = blkO A ∨ blkO A' = some w.heap.size) → wpList P ops Q rest (a.put o.dst (.slice A' (n + m) cap')) w') : wpList P ops Q (o :: rest) a w :=
  wpList_plain hgd fun _ hK => wp_pushes s x t ho e i z bytes ht hi hz hsize hby hzs hsz hcf hone n hn hs hF ys m hm ga oa c hx hnews h63 hbytes hbase fun A' cap' w' h1 h2 h3 => hK _ _ (h A' cap' w' h1 h2 h3)
/-- an element is written -/
theorem OwnS.put {y : α} {k : Nat} (hcf : ∀ x, (cf x).length = sz) (h : OwnS cf sz T w g cap xs) (hk : k < xs.length) : OwnS cf sz T (stores w g (k * sz) (cf y)) g cap (xs.set k y) := by
  obtain ⟨cur, h1, h2, h3, h4, h5⟩ := h
  have hroom : (k + 1) * sz ≤ cap * sz := Nat.mul_le_mul_right sz (by omega)
  rw [Nat.succ_mul] at hroom
  obtain ⟨cur', e1, e2, e3⟩ := stores_heap (T := T) (cf y) w (k * sz) cur h1 (by rw [hcf]; omega)
  refine ⟨cur', e1, e2.trans h2, by simpa using h3, h4, fun i z hz j v hv => ?_⟩
  have hj := lt_of_cf hcf hv
  rw [e3, hcf]
  rw [List.getElem?_set] at hz
  split at hz
  · rename_i hi
    subst hi
    simp only [hk, if_true, Option.some.injEq] at hz
    subst hz
    rw [if_pos (by omega), Nat.add_sub_cancel_left]
    exact hv
  · rename_i hi
    rw [if_neg ?_]
    · exact h5 i z hz j v hv
    · intro hc
      rcases Nat.lt_or_gt_of_ne hi with hlt | hgt
      · have : (k + 1) * sz ≤ i * sz := Nat.mul_le_mul_right sz hlt
        rw [Nat.succ_mul] at this
        omega
      · have : (i + 1) * sz ≤ k * sz := Nat.mul_le_mul_right sz hgt
        rw [Nat.succ_mul] at this
        omega
/-- one cell of an element is written -/
theorem OwnS.put1 {y : α} {k j : Nat} {v : Value} (hcf : ∀ x, (cf x).length = sz) (h : OwnS cf sz T w g cap xs) (hk : k < xs.length) (hj : j < sz) (hy : cf y = (cf xs[k]).set j v) : OwnS cf sz T (w.setCell ⟨g, k * sz + j, none⟩ v) g cap (xs.set k y) := by
  obtain ⟨cur, h1, h2, h3, h4, h5⟩ := h
  have hroom : (k + 1) * sz ≤ cap * sz := Nat.mul_le_mul_right sz (by omega)
  rw [Nat.succ_mul] at hroom
  refine ⟨cur.setIfInBounds (k * sz + j) v, heap_setCell_self h1 _ _, by simpa using h2, by simpa using h3, h4, fun i z hz p u hu => ?_⟩
  have hp := lt_of_cf hcf hu
  rw [List.getElem?_set] at hz
  rw [Array.getElem?_setIfInBounds]
  split at hz
  · rename_i hi
    subst hi
    simp only [hk, if_true, Option.some.injEq] at hz
    subst hz
    rw [hy, List.getElem?_set] at hu
    by_cases hpj : j = p
    · subst hpj
      rw [if_pos rfl, if_pos (by omega)]
      rw [if_pos rfl, hcf, if_pos hp] at hu
      exact hu
    · rw [if_neg (by omega)]
      rw [if_neg hpj] at hu
      exact h5 k _ (List.getElem?_eq_getElem hk) p u hu
  · rename_i hi
    rw [if_neg ?_]
    · exact h5 i z hz p u hu
    · intro hc
      rcases Nat.lt_or_gt_of_ne hi with hlt | hgt
      · have : (k + 1) * sz ≤ i * sz := Nat.mul_le_mul_right sz hlt
        rw [Nat.succ_mul] at this
        omega
      · have : (i + 1) * sz ≤ k * sz := Nat.mul_le_mul_right sz hgt
        rw [Nat.succ_mul] at this
        omega
theorem FreshA.row (h : FreshA cf sz T B w A cap xs) (hne : 0 < xs.length) : ∃ g, A = some ⟨g, 0, none⟩ ∧ B ≤ g ∧ OwnS cf sz T w g cap xs := by
  rcases h with ⟨_, rfl, _⟩ | h
  · simp at hne
  · exact h
end

end Go.Proofs.Yteciijnpfapmhaa
