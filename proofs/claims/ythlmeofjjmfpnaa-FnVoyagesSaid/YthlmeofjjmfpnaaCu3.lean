import Derived.Test.YthlmeofjjmfpnaaCu2
namespace Go.Proofs.Ythlmeofjjmfpnaa
set_option linter.unusedSimpArgs false
set_option linter.unusedVariables false
open Go.RowKit

def cI (x : Int) : List Value := [.int .i64 x]
theorem Rds.of_block {w : World} {g : Nat} {cur : Array Value} {T : TypeId} {fr : Nat × Nat} {L : List Int} (h : w.heap[g]? = some (.cells cur T fr)) (hc : ∀ (i : Nat) (x : Int), L[i]? = some x → cur[i]? = some (Value.int .i64 x)) : Rds cI 1 w (some ⟨g, 0, none⟩) L := by
  intro i x hx
  have hlt : g < w.heap.size := by
    rcases Nat.lt_or_ge g w.heap.size with hl | hl
    · exact hl
    · rw [Array.getElem?_eq_none hl] at h; cases h
  refine ⟨g, 0, rfl, hlt, fun j v hv => ?_⟩
  match j, hv with
  | 0, hv =>
    simp only [cI, List.getElem?_cons_zero, Option.some.injEq] at hv
    subst hv
    simp [World.cell?, h, hc i x hx]
  | j + 1, hv => simp [cI] at hv
set_option maxHeartbeats 2000000 in
theorem c_one (b : Nat) (A : Option Addr) (cs : List Int) (cap : Nat) (m n : Int) (w : World) (hcu : CurS w b A cs cap m) (hby : Bytes cs) (hm : 0 ≤ m ∧ m ≤ 900000000) (hl : cs.length ≤ 1000000000) (hn : n ≤ 200) :
    Calls Try.prog 77 #[.pointer (some ⟨b, 0, none⟩), .int .i64 n] w fun e w' => ∃ y : Bool, e = .returned (.bool y) ∧ CurS w' b A cs cap (m + 1) ∧ w.grownBy w' (some b) := by
  go_enter Try.func77, Try.ntmps77
  go_wp2_with (fail)
  refine (c_pick b A cs cap m n _ hcu hby hm hl hn).mono ?_
  rintro e w1 ⟨x, rfl, hx0, hx1, hcu1, hg1⟩
  go_wp2_with (fail)
  all_goals go_ret
  all_goals exact ⟨_, rfl, hcu1, hg1⟩
set_option maxHeartbeats 2000000 in
theorem c_among (b : Nat) (A : Option Addr) (cs : List Int) (cap : Nat) (m : Int) (AL : Option Addr) (L : List Int) (capL : Nat) (lo hi : Int) (w : World) (hcu : CurS w b A cs cap m) (hby : Bytes cs) (hm : 0 ≤ m ∧ m ≤ 900000000) (hl : cs.length ≤ 1000000000)
    (hL : Rds cI 1 w AL L) (hlen : 0 < L.length ∧ L.length ≤ 200) (hne : ∀ a, AL = some a → some a.block ≠ some b) (hbd : ∀ k (hk : k < L.length), lo ≤ L[k] ∧ L[k] ≤ hi) :
    Calls Try.prog 76 #[.pointer (some ⟨b, 0, none⟩), .slice AL L.length capL] w fun e w' => ∃ y : Int, e = .returned (.int .i64 y) ∧ lo ≤ y ∧ y ≤ hi ∧ CurS w' b A cs cap (m + 1) ∧ w.grownBy w' (some b) := by
  go_enter Try.func76, Try.ntmps76
  go_wp2_with (fail)
  refine (c_pick b A cs cap m L.length _ hcu hby hm hl (by omega)).mono ?_
  rintro e w1 ⟨x, rfl, hx0, hx1, hcu1, hg1⟩
  obtain ⟨k, rfl⟩ : ∃ k : Nat, x = k := ⟨x.toNat, by omega⟩
  have hk : k < L.length := by omega
  have hL1 := hL.grown hg1 hne
  obtain ⟨bx, ox, rfl, hbx, hcx⟩ := hL1 k L[k] (List.getElem?_eq_getElem hk)
  have hx := hcx 0 _ rfl
  simp only [Nat.add_zero, Nat.mul_one] at hx
  have hy := hbd k hk
  clear hcx hL1 hbd hL hne
  generalize L[k] = y at *
  generalize L.length = n at *
  go_wp2_with (fail)
  all_goals go_ret
  all_goals exact ⟨y, rfl, hy.1, hy.2, hcu1, hg1⟩

end Go.Proofs.Ythlmeofjjmfpnaa
