import Derived.Test.YthlmeofjjmfpnaaSl
import Derived.Test.YthlmeofjjmfpnaaDefs
namespace Go.Proofs.Ythlmeofjjmfpnaa
set_option linter.unusedSimpArgs false
set_option linter.unusedVariables false
open Go.RowKit

def cB (x : Int) : List Value := [.int .u8 x]
/-- the cursor at block b: the code, how far it has come (m at most), the seed -/
def Cur (w : World) (b : Nat) (A : Option Addr) (n cap : Nat) (m : Int) : Prop :=
  b < w.heap.size ∧ w.cell? ⟨b, 0, none⟩ = some (.slice A n cap) ∧ (∃ a : Int, 0 ≤ a ∧ a ≤ m ∧ w.cell? ⟨b, 1, none⟩ = some (.int .i64 a)) ∧ (∃ s : Int, w.cell? ⟨b, 2, none⟩ = some (.int .u64 s)) ∧ ∀ o, w.frozen? ⟨b, o, none⟩ = false
def Bytes (cs : List Int) : Prop := ∀ k (hk : k < cs.length), 0 ≤ cs[k] ∧ cs[k] ≤ 255
theorem low8 (E : Int) (h0 : 0 ≤ E) (h1 : E ≤ 18446744073709551615) : 0 ≤ bits BinOp.and IntKind.u64 E 255 ∧ bits BinOp.and IntKind.u64 E 255 ≤ 255 := by
  have h := bits_and_u64_nat E.toNat 255 (by omega) (by omega)
  rw [Int.toNat_of_nonneg h0] at h
  have h3 : bits BinOp.and IntKind.u64 E 255 = ((E.toNat &&& 255 : Nat) : Int) := h
  have h2 : E.toNat &&& 255 ≤ 255 := Nat.and_le_right
  omega
theorem wrap_u64 (x : Int) : 0 ≤ IntKind.u64.wrap x ∧ IntKind.u64.wrap x ≤ 18446744073709551615 := by
  have : IntKind.u64.wrap x = x % 18446744073709551616 := rfl
  omega
theorem Cur.after {w w' : World} {b n cap : Nat} {A : Option Addr} {m a : Int} (hcu : Cur w b A n cap m) (ha : 0 ≤ a ∧ a ≤ m + 1) (h0 : w'.cell? ⟨b, 0, none⟩ = w.cell? ⟨b, 0, none⟩) (h1 : w'.cell? ⟨b, 1, none⟩ = some (.int .i64 a)) (h2 : ∃ s, w'.cell? ⟨b, 2, none⟩ = some (.int .u64 s))
    (hz : ∀ o, w'.frozen? ⟨b, o, none⟩ = w.frozen? ⟨b, o, none⟩) (hs : w.heap.size ≤ w'.heap.size) : Cur w' b A n cap (m + 1) := by
  obtain ⟨hb, q0, _, _, qz⟩ := hcu
  exact ⟨by omega, by rw [h0]; exact q0, ⟨a, ha.1, ha.2, h1⟩, h2, fun o => by rw [hz]; exact qz o⟩
theorem grown_drew {a w : World} {row : Option Nat} (h : a.grownBy w row) : a.grownBy w.drew row := ⟨h.os, h.tape, h.output, h.size, h.block⟩
set_option maxRecDepth 100000 in
set_option maxHeartbeats 2000000 in
theorem c_next (b : Nat) (A : Option Addr) (cs : List Int) (cap : Nat) (m : Int) (w : World) (hcu : Cur w b A cs.length cap m) (hr : RdsN b cB 1 w A cs) (hby : Bytes cs) (hm : 0 ≤ m ∧ m ≤ 1000000000) (hl : cs.length ≤ 1000000000) :
    Calls Try.prog 83 #[.pointer (some ⟨b, 0, none⟩)] w fun e w' => ∃ x : Int, e = .returned (.int .i64 x) ∧ 0 ≤ x ∧ x ≤ 255 ∧ Cur w' b A cs.length cap (m + 1) ∧ w.grownBy w' (some b) := by
  have hcu0 := hid hcu
  obtain ⟨hb, q0, ⟨a, ha0, ha1, q1⟩, ⟨s, q2⟩, qz⟩ := hcu
  have z1 := qz 1
  have z2 := qz 2
  by_cases hlt : a < cs.length
  · obtain ⟨k, rfl⟩ : ∃ k : Nat, a = k := ⟨a.toNat, by omega⟩
    have hk : k < cs.length := by omega
    obtain ⟨bx, ox, rfl, hbx, hcx⟩ := hr k cs[k] (List.getElem?_eq_getElem hk)
    have hx0 := hcx 0 _ rfl
    simp only [Nat.add_zero, Nat.mul_one] at hx0
    have hx := hby k hk
    clear hcx hr hby
    generalize cs[k] = x at *
    generalize hcl : cs.length = n at *
    go_enter Try.func83, Try.ntmps83
    go_wp2_with (fail)
    go_region
    all_goals go_wp2_with (fail)
    all_goals go_region
    all_goals go_wp2_with (fail)
    all_goals go_region
    all_goals go_wp2_with (fail)
    all_goals go_ret
    all_goals
      refine ⟨x, rfl, hx.1, hx.2, ?_, ?_⟩
      · refine Cur.after hcu0.out (a := k + 1) (by omega) ?_ ?_ ?_ (fun o => ?_) ?_
        · simp [go_sem]
        · simp [go_sem, q1]
        · refine ⟨?_, ?_⟩
          rotate_left
          · simp [go_sem, q2]
            rfl
        · simp [go_sem]
        · simp
      · repeat' first | exact World.grownBy.refl _ _ | refine grown_drew ?_ | refine grown_set ?_
  · have hx0 : (0 : Int) ≤ 0 := by omega
    clear hr hby
    generalize hcl : cs.length = n at *
    go_enter Try.func83, Try.ntmps83
    go_wp2_with (fail)
    go_region
    all_goals go_wp2_with (fail)
    all_goals go_region
    all_goals go_wp2_with (fail)
    have hw := wrap_u64 (IntKind.u64.wrap (IntKind.u64.wrap (s * 6364136223846793005)) + 924924)
    generalize hg : IntKind.u64.wrap (IntKind.u64.wrap (IntKind.u64.wrap (s * 6364136223846793005)) + 924924) = u at *
    have h8 := low8 (u / 1099511627776) (by omega) (by omega)
    generalize bits BinOp.and IntKind.u64 (u / 1099511627776) 255 = z at *
    have e : wrap64 z = z := by unfold wrap64; omega
    all_goals go_ret
    all_goals
      refine ⟨z, by (first | rfl | simp [e]),  h8.1, h8.2, ?_, ?_⟩
      · refine Cur.after hcu0.out (a := a + 1) (by omega) ?_ ?_ ?_ (fun o => ?_) ?_
        · simp [go_sem]
        · simp [go_sem, q1]
        · refine ⟨?_, ?_⟩
          rotate_left
          · simp [go_sem, q2]
            rfl
        · simp [go_sem]
        · simp
      · repeat' first | exact World.grownBy.refl _ _ | refine grown_drew ?_ | refine grown_set ?_

end Go.Proofs.Ythlmeofjjmfpnaa
