import Derived.Test.YtgjbdcalmodhpaaE0
import Derived.Test.YtgjbdcalmodhpaaE1
import Derived.Test.YtgjbdcalmodhpaaPD
import Derived.Test.YtgjbdcalmodhpaaC1
import Derived.Deep.RegionHeld3
import Derived.BigQuiet
import Derived.Deep.QuietTactic
namespace Go.Proofs.Ytgjbdcalmodhpaa
set_option linter.unusedSimpArgs false
set_option linter.unusedVariables false
open Go.RowKit

def cIn (x : (Int)) : List Value := [.int .i64 (x)]
theorem cIn_len (x : (Int)) : (cIn x).length = 1 := rfl

def mkIn (n : Nat) (k : Int) : List (Int) := (List.range n).map fun (i : Nat) => (k + (i : Int))

theorem mkIn_len (n : Nat) (k : Int) : (mkIn n k).length = n := by simp [mkIn]
theorem mkIn_at (n : Nat) (k : Int) (j : Nat) (h : j < n) (h' : j < (mkIn n k).length) : (mkIn n k)[j] = (k + (j : Int)) := by simp [mkIn]

theorem mkIn_snoc (j : Nat) (k : Int) : mkIn (j + 1) k = mkIn j k ++ [(k + (j : Int))] := by simp [mkIn, List.range_succ]

theorem news_In (w : World) (g : Nat) (x : (Int)) (h0 : w.cell? ⟨g, 0, none⟩ = some (.int .i64 (x))) : ∀ j u, (cIn x)[j]? = some u → w.cell? ⟨g, j, none⟩ = some u := by
  intro j u hu
  match j, hu with
  | 0, hu => cases hu; exact h0
  | j + 1, hu => simp [cIn] at hu

theorem one_In : ∀ x, ∀ u ∈ cIn x, u.oneCell' = true := by
  intro x u hu
  simp [cIn] at hu
  subst hu
  rfl

theorem info_In : (Try.prog.info? 3).map (fun i => (i.zero, i.size, i.bytes)) = some (some (.int .i64 0), 1, 8) := by kernel_rfl

abbrev PasT := Int × Bool × Int × Int
def p0 : PasT := (0, false, 0, 0)
def bitS (s k : Nat) : Bool := s.testBit k
/-- those of the first k passages that are in the set -/
def ownK (xs : List PasT) (s : Nat) : Nat → List PasT
  | 0 => []
  | k + 1 => ownK xs s k ++ (if bitS s k = true then [xs.getD k p0] else [])
def idsK (xs : List PasT) (s k : Nat) : List Int := (ownK xs s k).map (·.1)
def popK (s : Nat) : Nat → Nat
  | 0 => 0
  | k + 1 => popK s k + (if bitS s k = true then 1 else 0)
/-- passage i clashes with none of the first q in the set -/
def innK (xs : List PasT) (s : Nat) (g : Int) (i : Nat) : Nat → Bool
  | 0 => true
  | q + 1 => innK xs s g i q && (!bitS s q || !clash (xs.getD i p0) (xs.getD q p0) g)
def frK (xs : List PasT) (s : Nat) (g : Int) : Nat → Bool
  | 0 => true
  | k + 1 => if bitS s k = true then frK xs s g k && innK xs s g k k else frK xs s g k
def lexB : List Int → List Int → Bool
  | [], b => decide (0 < b.length)
  | _ :: _, [] => false
  | x :: a, y :: b => if x = y then lexB a b else decide (x < y)
def bstStep (xs : List PasT) (g : Int) (b : List Int) (s : Nat) : List Int :=
  if frK xs s g xs.length = true ∧ (b.length < (idsK xs s xs.length).length ∨ ((idsK xs s xs.length).length = b.length ∧ lexB (idsK xs s xs.length) b = true)) then idsK xs s xs.length else b
def bstTo (xs : List PasT) (g : Int) (k : Nat) : List Int := (List.range k).foldl (bstStep xs g) []
def mostV (xs : List PasT) (g : Int) : List Int × Bool := if vB pOk pLt 6 xs = true ∧ gapB g = true then (bstTo xs g (2 ^ xs.length), true) else ([], false)
section
variable {xs : List PasT} {s : Nat} {g : Int}
theorem bstTo_succ (k : Nat) : bstTo xs g (k + 1) = bstStep xs g (bstTo xs g k) k := by
  unfold bstTo
  rw [List.range_succ, List.foldl_append]; rfl
theorem own_pop : ∀ k, (ownK xs s k).length = popK s k
  | 0 => rfl
  | k + 1 => by
    unfold ownK popK
    rw [List.length_append, own_pop k]
    split <;> rfl
theorem ids_len (k : Nat) : (idsK xs s k).length = popK s k := by
  unfold idsK
  rw [List.length_map, own_pop]
theorem pop_le (s : Nat) : ∀ k, popK s k ≤ k
  | 0 => Nat.le_refl _
  | k + 1 => by
    have := pop_le s k
    unfold popK
    split <;> omega
theorem ids_succ (k : Nat) : idsK xs s (k + 1) = idsK xs s k ++ (if bitS s k = true then [(xs.getD k p0).1] else []) := by
  unfold idsK
  rw [ownK, List.map_append]
  split <;> rfl
theorem pop6 : ∀ n : Fin 7, ∀ s : Fin 64, s.1 < 2 ^ n.1 → popK s.1 n.1 = popK s.1 6 := by decide
theorem bst_len : ∀ k, (bstTo xs g k).length ≤ xs.length
  | 0 => Nat.zero_le _
  | k + 1 => by
    have ih := bst_len k
    rw [bstTo_succ]
    unfold bstStep
    split
    · rw [ids_len]; exact pop_le _ _
    · exact ih
theorem own_mem : ∀ k a, a ∈ ownK xs s k → ∃ q, q < k ∧ bitS s q = true ∧ a = xs.getD q p0
  | 0, a, h => by simp [ownK] at h
  | k + 1, a, h => by
    unfold ownK at h
    rw [List.mem_append] at h
    rcases h with h | h
    · obtain ⟨q, h1, h2, h3⟩ := own_mem k a h
      exact ⟨q, by omega, h2, h3⟩
    · split at h
      · rename_i hb
        rw [List.mem_singleton] at h
        exact ⟨k, by omega, hb, h⟩
      · simp at h
theorem mem_own : ∀ k q, q < k → bitS s q = true → xs.getD q p0 ∈ ownK xs s k
  | 0, q, h, _ => by omega
  | k + 1, q, h, hb => by
    unfold ownK
    rw [List.mem_append]
    by_cases e : q = k
    · subst e
      right
      rw [if_pos hb]; exact List.mem_singleton.2 rfl
    · exact .inl (mem_own k q (by omega) hb)
theorem inn_iff (i : Nat) : ∀ q, innK xs s g i q = true ↔ ∀ r, r < q → bitS s r = true → clash (xs.getD i p0) (xs.getD r p0) g = false
  | 0 => by simp [innK]
  | q + 1 => by
    unfold innK
    rw [Bool.and_eq_true, inn_iff i q, Bool.or_eq_true]
    constructor
    · rintro ⟨h1, h2⟩ r hr hb
      rcases Nat.lt_or_ge r q with h | h
      · exact h1 r h hb
      · have : r = q := by omega
        subst this
        rcases h2 with h2 | h2
        · rw [hb] at h2; simp at h2
        · simpa using h2
    · intro h
      refine ⟨fun r hr hb => h r (by omega) hb, ?_⟩
      cases hb : bitS s q with
      | false => left; rfl
      | true => right; rw [h q (by omega) hb]; rfl
theorem row_nil (a : PasT) (ys : List PasT) : rowP a ys g = [] ↔ ∀ b ∈ ys, clash a b g = false := by
  unfold rowP
  rw [List.map_eq_nil_iff, List.filter_eq_nil_iff]
  simp
theorem pairs_nil (ys : List PasT) : pairsV ys g = [] ↔ ys.Pairwise fun a b => clash a b g = false := by
  unfold pairsV pairsTo
  rw [List.flatMap_eq_nil_iff, List.pairwise_iff_getElem]
  constructor
  · intro h i j hi hj hij
    have := h i (List.mem_range.2 hi)
    rw [List.getElem?_eq_getElem hi] at this
    refine (row_nil _ _).1 this _ ?_
    rw [List.mem_drop_iff_getElem]
    exact ⟨j - (i + 1), by omega, by congr 1; omega⟩
  · intro h i hi
    have hi' := List.mem_range.1 hi
    rw [List.getElem?_eq_getElem hi']
    refine (row_nil _ _).2 fun b hb => ?_
    rw [List.mem_drop_iff_getElem] at hb
    obtain ⟨j, hj, e⟩ := hb
    rw [← e]
    exact h i (i + 1 + j) hi' (by omega) (by omega)
theorem fr_iff (hsym : ∀ i q, q < i → i < xs.length → clash (xs.getD i p0) (xs.getD q p0) g = clash (xs.getD q p0) (xs.getD i p0) g) : ∀ k, k ≤ xs.length → (frK xs s g k = true ↔ (ownK xs s k).Pairwise fun a b => clash a b g = false)
  | 0, _ => by simp [frK, ownK]
  | k + 1, hk => by
    have ih := fr_iff hsym k (by omega)
    unfold frK ownK
    cases hb : bitS s k with
    | false => simpa using ih
    | true =>
      rw [if_pos rfl, if_pos rfl, Bool.and_eq_true, ih, inn_iff, List.pairwise_append]
      constructor
      · rintro ⟨h1, h2⟩
        refine ⟨h1, List.pairwise_singleton _ _, fun a ha b hbb => ?_⟩
        rw [List.mem_singleton] at hbb
        obtain ⟨q, hq, hqb, e⟩ := own_mem k a ha
        rw [hbb, e, ← hsym k q hq (by omega)]
        exact h2 q hq hqb
      · rintro ⟨h1, _, h3⟩
        refine ⟨h1, fun r hr hrb => ?_⟩
        rw [hsym k r hr (by omega)]
        exact h3 _ (mem_own k r hr hrb) _ (List.mem_singleton.2 rfl)
theorem fr_pairs (hsym : ∀ i q, q < i → i < xs.length → clash (xs.getD i p0) (xs.getD q p0) g = clash (xs.getD q p0) (xs.getD i p0) g) : (frK xs s g xs.length = true ↔ pairsV (ownK xs s xs.length) g = []) := by
  rw [fr_iff hsym xs.length (Nat.le_refl _), pairs_nil]
theorem ids_rise (hv : vB pOk pLt 6 xs = true) : ∀ (d a : Nat) (h : a + 1 + d < xs.length), xs[a].1 < xs[a + 1 + d].1
  | 0, a, h => by simpa [pLt] using vB_lt hv a (by omega)
  | d + 1, a, h => by
    have h1 := ids_rise hv d a (by omega)
    have h2 := vB_lt hv (a + 1 + d) (by omega)
    simp only [pLt, decide_eq_true_eq] at h2
    exact Int.lt_trans h1 h2
theorem clash_sym {a b : PasT} (h : a.1 ≠ b.1) : clash a b g = clash b a g := by
  unfold clash clashB
  obtain ⟨i, d, x, y⟩ := a
  obtain ⟨i', d', x', y'⟩ := b
  simp only at h ⊢
  by_cases hd : d = d'
  · subst hd
    simp
    by_cases h1 : x' < x
    · simp [h1, show ¬ x < x' by omega, show ¬ x = x' by omega, show ¬ x' = x by omega]
    · by_cases h2 : x < x'
      · simp [h1, h2, show ¬ x = x' by omega, show ¬ x' = x by omega]
      · have e : x = x' := by omega
        subst e
        by_cases h3 : i' < i
        · simp [h3, show ¬ i < i' by omega]
        · simp [h3, show i < i' by omega]
  · simp [hd, Ne.symm hd]
    rw [Int.max_comm, Int.min_comm]
theorem most_sym (hv : vB pOk pLt 6 xs = true) : ∀ i q, q < i → i < xs.length → clash (xs.getD i p0) (xs.getD q p0) g = clash (xs.getD q p0) (xs.getD i p0) g := fun i q hq hi => by
  have e1 : xs.getD i p0 = xs[i] := by rw [List.getD_eq_getElem?_getD, List.getElem?_eq_getElem hi]; rfl
  have e2 : xs.getD q p0 = xs[q]'(by omega) := by rw [List.getD_eq_getElem?_getD, List.getElem?_eq_getElem (show q < xs.length by omega)]; rfl
  rw [e1, e2]
  have := ids_rise hv (i - q - 1) q (by omega)
  simp only [show q + 1 + (i - q - 1) = i by omega] at this
  exact clash_sym (by omega)
end

set_option maxRecDepth 100000 in
set_option maxHeartbeats 4000000 in
theorem c_ones64 (n : Nat) (hn : n < 64) (w : World) : Calls Try.prog 90 #[.int .u64 (n : Int)] w fun e w' => e = .returned (.int .i64 (popK n 6 : Nat)) ∧ w' = w := by
  go_enter Try.func90, Try.ntmps90
  go_wp2_with (fail)
  go_ret
  refine ⟨ret_int ?_, rfl⟩
  obtain ⟨m, rfl⟩ : ∃ m : Fin 64, n = m.1 := ⟨⟨n, hn⟩, rfl⟩
  clear hn
  revert m
  decide +kernel
theorem c_ones (n : Nat) (hn : n < 64) (w : World) : Calls Try.prog 75 #[.int .u64 (n : Int)] w fun e w' => e = .returned (.int .i64 (popK n 6 : Nat)) ∧ w' = w := by
  go_enter Try.func75, Try.ntmps75
  go_wp2_with (go_at_call 90; refine (c_ones64 n hn _).mono ?_; rintro e w' ⟨rfl, hw9⟩; rw [hw9]; clear hw9 w')
  go_ret
  exact ⟨rfl, rfl⟩
theorem c_cmpInt (a b : Int) (w : World) : Calls Try.prog 91 #[.int .i64 a, .int .i64 b] w fun e w' => e = .returned (.int .i64 (if a < b then -1 else if b < a then 1 else 0)) ∧ w' = w := by
  have hnan : ∀ (x : Int) (w : World), Calls Try.prog 94 #[.int .i64 x] w fun e w' => e = .returned (.bool false) ∧ w' = w := fun x w => by
    go_enter Try.func94, Try.ntmps94
    go_wp2_with (fail)
    go_ret
    exact ⟨ret_bool (by simp), rfl⟩
  go_enter Try.func91, Try.ntmps91
  go_wp2_with (go_at_call 94; refine (hnan _ _).mono ?_; rintro e w' ⟨rfl, hw9⟩; rw [hw9]; clear hw9 w')
  all_goals go_ret
  all_goals exact ⟨ret_int (by (repeat' split) <;> omega), rfl⟩

def cmpL : List Int → List Int → Int
  | [], [] => 0
  | [], _ :: _ => -1
  | _ :: _, [] => 1
  | x :: a, y :: b => if x < y then -1 else if y < x then 1 else cmpL a b
theorem cmpL_lex : ∀ a b : List Int, cmpL a b < 0 ↔ lexB a b = true
  | [], [] => by simp [cmpL, lexB]
  | [], _ :: _ => by simp [cmpL, lexB]
  | _ :: _, [] => by simp [cmpL, lexB]
  | x :: a, y :: b => by
    unfold cmpL lexB
    by_cases h1 : x < y
    · simp [h1, show ¬ x = y by omega]
    · by_cases h2 : y < x
      · simp [h1, h2, show ¬ x = y by omega]
      · have e : x = y := by omega
        subst e
        simpa using cmpL_lex a b
set_option maxRecDepth 100000 in
set_option maxHeartbeats 4000000 in
theorem c_compareI (A : Option Addr) (a : List Int) (ca : Nat) (B : Option Addr) (b : List Int) (cb : Nat) (w : World) (hx : Rds cIn 1 w A a) (hn : a.length ≤ 1000) (hy : Rds cIn 1 w B b) (hl : a.length = b.length) :
    Calls Try.prog 76 #[.slice A a.length ca, .slice B b.length cb] w fun e w' => e = .returned (.int .i64 (cmpL a b)) ∧ w' = w := by
  have hl1 : a.length ≤ b.length := by omega
  have hl2 : b.length ≤ a.length := by omega
  have hl3 : ¬ ((a.length : Int) < (b.length : Int)) := by omega
  clear hl
  go_enter Try.func76, Try.ntmps76
  go_wp2_with (fail)
  go_loopw [11] (fun i wr => ∃ k : Nat, k ≤ a.length ∧ i = .int .i64 k ∧ cmpL (a.drop k) (b.drop k) = cmpL a b ∧ wr = w) (fun i _ => a.length - (intOf i).toNat)
  case atStart => exact ⟨0, Nat.zero_le _, rfl, rfl, rfl⟩
  case round =>
    obtain ⟨k, hk, rfl, he, hw⟩ := hrel
    subst hw
    have HE := hid he
    clear he
    by_cases hlt : k < a.length
    · have hlb : k < b.length := by omega
      obtain ⟨ba, oa, rfl, hba, hca⟩ := hx k a[k] (List.getElem?_eq_getElem hlt)
      obtain ⟨bb, ob, rfl, hbb, hcb⟩ := hy k b[k] (List.getElem?_eq_getElem hlb)
      have ha0 := hca 0 _ rfl
      have hb0 := hcb 0 _ rfl
      simp only [Nat.add_zero, Nat.mul_one] at ha0 hb0
      have HD : Hid (cmpL (a.drop k) (b.drop k) = if a[k] < b[k] then -1 else if b[k] < a[k] then 1 else cmpL (a.drop (k + 1)) (b.drop (k + 1))) := by
        show _ = _
        rw [List.drop_eq_getElem_cons hlt, List.drop_eq_getElem_cons hlb]; rfl
      clear hca hcb hx hy
      generalize a[k] = x at *
      generalize b[k] = y at *
      have hgk : ¬ ((k : Int) ≥ (b.length : Int)) := by omega
      by_cases h1 : x < y
      · have HR : Hid (cmpL a b = -1) := by show _ = _; rw [← HE.out, HD.out, if_pos h1]
        go_wp2_with (go_at_call 91; refine (c_cmpInt _ _ _).mono ?_; rintro e w' ⟨rfl, hw9⟩; rw [hw9]; clear hw9 w')
        go_ret
        exact ⟨ret_int (by first | (rw [HR.out]; done) | (rw [HR.out]; simp [h1])), rfl⟩
      · by_cases h2 : y < x
        · have HR : Hid (cmpL a b = 1) := by show _ = _; rw [← HE.out, HD.out, if_neg h1, if_pos h2]
          have h1' : ¬ x < y := h1
          go_wp2_with (go_at_call 91; refine (c_cmpInt _ _ _).mono ?_; rintro e w' ⟨rfl, hw9⟩; rw [hw9]; clear hw9 w')
          go_ret
          exact ⟨ret_int (by first | (rw [HR.out]; done) | (rw [HR.out]; simp; omega) | (rw [HR.out]; simp [h2])), rfl⟩
        · have HR : Hid (cmpL (a.drop (k + 1)) (b.drop (k + 1)) = cmpL a b) := by show _ = _; rw [← HE.out, HD.out, if_neg h1, if_neg h2]
          go_wp2_with (go_at_call 91; refine (c_cmpInt _ _ _).mono ?_; rintro e w' ⟨rfl, hw9⟩; rw [hw9]; clear hw9 w')
          go_roundw
          case rel => exact ⟨k + 1, by omega, by go_num, HR.out, by first | trivial | rfl⟩
          case measure => simp [intOf]; omega
    · obtain rfl : k = a.length := by omega
      have HZ : Hid (cmpL a b = 0) := by
        show _ = _
        rw [← HE.out, List.drop_length, List.drop_eq_nil_of_le (by omega)]; rfl
      go_wp2_with (fail)
      go_ret
      exact ⟨ret_int HZ.out.symm, rfl⟩
set_option maxRecDepth 100000 in
set_option maxHeartbeats 4000000 in
theorem c_l4Less (A : Option Addr) (a : List Int) (ca : Nat) (B : Option Addr) (b : List Int) (cb : Nat) (w : World) (hx : Rds cIn 1 w A a) (hn : a.length ≤ 1000) (hy : Rds cIn 1 w B b) (hl : a.length = b.length) :
    Calls Try.prog 74 #[.slice A a.length ca, .slice B b.length cb] w fun e w' => e = .returned (.bool (lexB a b)) ∧ Below w.heap.size w w' := by
  have hl1 : a.length ≤ b.length := by omega
  have hl2 : b.length ≤ a.length := by omega
  have hl3 : ¬ ((a.length : Int) < (b.length : Int)) := by omega
  clear hl
  go_enter Try.func74, Try.ntmps74
  go_wp2_with (fail)
  go_loopw [5] (fun i wr => ∃ k : Nat, k ≤ a.length ∧ i = .int .i64 k ∧ lexB (a.drop k) (b.drop k) = lexB a b ∧ Below w.heap.size w wr) (fun i _ => a.length - (intOf i).toNat)
  case atStart => exact ⟨0, Nat.zero_le _, rfl, rfl, Below.refl _ _⟩
  case round =>
    obtain ⟨k, hk, rfl, he, hbr⟩ := hrel
    have HE := hid he
    clear he
    by_cases hlt : k < a.length
    · have hlb : k < b.length := by omega
      obtain ⟨ba, oa, rfl, hba, hca⟩ := hx k a[k] (List.getElem?_eq_getElem hlt)
      obtain ⟨bb, ob, rfl, hbb, hcb⟩ := hy k b[k] (List.getElem?_eq_getElem hlb)
      have ha0 : wr.cell? ⟨ba, oa + k, none⟩ = some (.int .i64 a[k]) := by have := hca 0 _ rfl; simp only [Nat.add_zero, Nat.mul_one] at this; exact (hbr.cell (p := ⟨ba, _, none⟩) hba).trans this
      have hb0 : wr.cell? ⟨bb, ob + k, none⟩ = some (.int .i64 b[k]) := by have := hcb 0 _ rfl; simp only [Nat.add_zero, Nat.mul_one] at this; exact (hbr.cell (p := ⟨bb, _, none⟩) hbb).trans this
      have HD : Hid (lexB (a.drop k) (b.drop k) = if a[k] = b[k] then lexB (a.drop (k + 1)) (b.drop (k + 1)) else decide (a[k] < b[k])) := by
        show _ = _
        rw [List.drop_eq_getElem_cons hlt, List.drop_eq_getElem_cons hlb]; rfl
      clear hca hcb hx hy
      generalize a[k] = x at *
      generalize b[k] = y at *
      have hkb : (k : Int) < (b.length : Int) := by omega
      by_cases h1 : x = y
      · go_wp2_with (fail)
        go_region_held3 (fun q => q.cell? ⟨ba, oa + k, none⟩ = some (.int .i64 x) ∧ q.cell? ⟨bb, ob + k, none⟩ = some (.int .i64 y)) (first | assumption | exact ⟨ha0, hb0⟩) (fail)
        go_wp2_with (fail)
        go_roundw
        case rel => exact ⟨k + 1, by omega, by go_num, by rw [← HE.out, HD.out, if_pos h1], by (repeat' (first | exact Below.refl _ _ | assumption | refine Below.setCell ?_ ?_ _ | refine Below.drew ?_ | refine Below.alloc ?_ ?_ _ | refine Below.trans ?_ (Below.mono (by assumption) ?_) | (simp; done) | (simp; omega) | omega))⟩
        case measure => simp [intOf]; omega
      · go_wp2_with (fail)
        go_region_held3 (fun q => q.cell? ⟨ba, oa + k, none⟩ = some (.int .i64 x) ∧ q.cell? ⟨bb, ob + k, none⟩ = some (.int .i64 y)) (first | assumption | exact ⟨ha0, hb0⟩) (fail)
        go_wp2_with (fail)
        go_region_held3 (fun q => q.cell? ⟨ba, oa + k, none⟩ = some (.int .i64 x) ∧ q.cell? ⟨bb, ob + k, none⟩ = some (.int .i64 y)) (first | assumption | exact ⟨ha0, hb0⟩) (fail)
        go_wp2_with (fail)
        go_ret
        exact ⟨ret_bool (by rw [← HE.out, HD.out, if_neg h1]), by (repeat' (first | exact Below.refl _ _ | assumption | refine Below.setCell ?_ ?_ _ | refine Below.drew ?_ | refine Below.alloc ?_ ?_ _ | refine Below.trans ?_ (Below.mono (by assumption) ?_) | (simp; done) | (simp; omega) | omega))⟩
    · obtain rfl : k = a.length := by omega
      have HZ : Hid (lexB a b = false) := by
        show _ = _
        rw [← HE.out, List.drop_length, List.drop_eq_nil_of_le (by omega)]; rfl
      have hkb : (a.length : Int) = (b.length : Int) := by omega
      go_wp2_with (fail)
      go_ret
      exact ⟨ret_bool (by rw [HZ.out]), by (repeat' (first | exact Below.refl _ _ | assumption | refine Below.setCell ?_ ?_ _ | refine Below.drew ?_ | refine Below.alloc ?_ ?_ _ | refine Below.trans ?_ (Below.mono (by assumption) ?_) | (simp; done) | (simp; omega) | omega))⟩

theorem most_bit0 : ∀ (s : Fin 64) (q : Fin 6), bits BinOp.and IntKind.i64 ((s.1 : Int) / 2 ^ q.1) 1 = if bitS s.1 q.1 = true then 1 else 0 := by decide +kernel
theorem most_bit {s q : Nat} (hs : s < 64) (hq : q < 6) : bits BinOp.and IntKind.i64 ((s : Int) / 2 ^ q) 1 = if bitS s q = true then 1 else 0 := most_bit0 ⟨s, hs⟩ ⟨q, hq⟩
theorem most_shl0 : ∀ n : Fin 7, IntKind.i64.wrap (2 ^ n.1) = ((2 ^ n.1 : Nat) : Int) := by decide +kernel
theorem most_shl {n : Nat} (h : n ≤ 6) : IntKind.i64.wrap (2 ^ n) = ((2 ^ n : Nat) : Int) := most_shl0 ⟨n, by omega⟩
theorem most_pw {n : Nat} (h : n ≤ 6) : 2 ^ n ≤ 64 := by
  have : ∀ n : Fin 7, 2 ^ n.1 ≤ 64 := by decide
  exact this ⟨n, by omega⟩
theorem most_pop {n s : Nat} (h : n ≤ 6) (hs : s < 2 ^ n) : popK s 6 = popK s n := by
  have h2 := most_pw h
  exact (pop6 ⟨n, by omega⟩ ⟨s, by omega⟩ hs).symm
theorem own_bd {xs : List PasT} (hv : vB pOk pLt 6 xs = true) {s : Nat} : ∀ k, k ≤ xs.length → ∀ a ∈ ownK xs s k, bdP a := fun k hk a ha => by
  obtain ⟨q, hq, _, e⟩ := own_mem k a ha
  have hql : q < xs.length := by omega
  have e2 : xs.getD q p0 = xs[q] := by rw [List.getD_eq_getElem?_getD, List.getElem?_eq_getElem hql]; rfl
  rw [e, e2]
  exact vB_bdP hv q hql
theorem bst_keep {xs : List PasT} {g : Int} {b : List Int} {s : Nat} (h : ¬ (frK xs s g xs.length = true ∧ (b.length < (idsK xs s xs.length).length ∨ ((idsK xs s xs.length).length = b.length ∧ lexB (idsK xs s xs.length) b = true)))) : bstStep xs g b s = b := by
  unfold bstStep
  rw [if_neg h]
theorem bst_take {xs : List PasT} {g : Int} {b : List Int} {s : Nat} (h1 : frK xs s g xs.length = true) (h2 : b.length < (idsK xs s xs.length).length ∨ ((idsK xs s xs.length).length = b.length ∧ lexB (idsK xs s xs.length) b = true)) : bstStep xs g b s = idsK xs s xs.length := by
  unfold bstStep
  rw [if_pos ⟨h1, h2⟩]
theorem mostV_len (xs : List PasT) (g : Int) : (mostV xs g).1.length ≤ 6 := by
  unfold mostV
  by_cases e : vB pOk pLt 6 xs = true ∧ gapB g = true
  · rw [if_pos e]
    exact Nat.le_trans (bst_len _) (vB_len e.1)
  · rw [if_neg e]; simp

end Go.Proofs.Ytgjbdcalmodhpaa
