import Derived.Test.YtgjbdcalmodhpaaCu10
import Derived.Test.YtgjbdcalmodhpaaCu11
import Derived.Test.YtgjbdcalmodhpaaDr0
import Derived.OwnWalk
namespace Go.Proofs.Ytgjbdcalmodhpaa
set_option linter.unusedSimpArgs false
set_option linter.unusedVariables false
open Go.RowKit

set_option maxRecDepth 100000 in
set_option maxHeartbeats 4000000 in
theorem c_spec_DrawClashPairs (A : Option Addr) (cs : List Int) (cap : Nat) (w : World) (hr : Rds cB 1 w A cs) (hby : Bytes cs) (hl : cs.length ≤ 1000000000) :
    Calls Try.prog 77 #[.slice A cs.length cap] w fun e w' => ∃ (A' : Option Addr) (cp : Nat) (xs : List (Int × Bool × Int × Int)) (g : Int), e = .returned (.tuple #[.slice A' xs.length cp, .int .i64 g]) ∧ FreshA cPas 4 26 w.heap.size w' A' cp xs ∧ xs.length ≤ 14 ∧ (-1 ≤ g ∧ g ≤ 31) ∧ Below w.heap.size w w' := by
  go_enter Try.func77, Try.ntmps77
  go_wp2_with (fail)
  refine (c_passages (w.heap.size) A cs cap 0 _ (CurS.new hr (Below.refl _ _) (by simp)) hby (by omega) hl).mono ?_
  rintro e W1 ⟨A1, cp1, xs, rfl, hF1, hxl, hcu1, hg1⟩
  have hz1 := hg1.size
  try simp at hz1
  go_wp2_with (fail)
  refine (c_gap w.heap.size A cs cap (0 + 80) _ hcu1 hby (by omega) hl).mono ?_
  rintro e W2 ⟨x2, rfl, hx2a, hx2b, hcu2, hg2⟩
  have hz2 := hg2.size
  go_wp2_with (fail)
  go_ret2
  exact ⟨A1, cp1, xs, x2, rfl, FreshA.mono (FreshA.rowb (FreshA.mono (B' := w.heap.size + 1) hF1 (by simp)) hg2 (by omega)) (by omega), hxl, ⟨hx2a, hx2b⟩, by (repeat' (first | exact Below.refl _ _ | assumption | refine Below.setCell ?_ ?_ _ | refine Below.drew ?_ | refine Below.alloc ?_ ?_ _ | refine below_row ?_ (by assumption) ?_ ?_ | refine Below.trans ?_ (Below.mono (by assumption) ?_) | (simp; done) | (simp; omega) | omega))⟩
set_option maxHeartbeats 2000000 in
theorem c_spec_DrawDelayInTurn (A : Option Addr) (cs : List Int) (cap : Nat) (w : World) (hr : Rds cB 1 w A cs) (hby : Bytes cs) (hl : cs.length ≤ 1000000000) :
    Calls Try.prog 42 #[.slice A cs.length cap] w fun e w' => ∃ (A' : Option Addr) (cp : Nat) (xs : List (Int × Bool × Int × Int)) (g : Int), e = .returned (.tuple #[.slice A' xs.length cp, .int .i64 g]) ∧ FreshA cPas 4 26 w.heap.size w' A' cp xs ∧ xs.length ≤ 14 ∧ (-1 ≤ g ∧ g ≤ 31) ∧ Below w.heap.size w w' := by
  go_enter Try.func42, Try.ntmps42
  go_wp2_with (go_at_call 77; refine (c_spec_DrawClashPairs A cs cap _ (hr.below (by (repeat' (first | exact Below.refl _ _ | assumption | refine Below.setCell ?_ ?_ _ | refine Below.drew ?_ | refine Below.alloc ?_ ?_ _ | refine Below.trans ?_ (Below.mono (by assumption) ?_) | (simp; done) | (simp; omega) | omega)))) hby hl).mono ?_; rintro e w1 ⟨A1, cp1, xs, g, rfl, hF1, hxl, hg, hb⟩)
  go_ret2
  exact ⟨A1, cp1, xs, g, rfl, hF1.mono (by first | omega | (simp; done) | (simp; omega)), hxl, hg, by (repeat' (first | exact Below.refl _ _ | assumption | refine Below.setCell ?_ ?_ _ | refine Below.drew ?_ | refine Below.alloc ?_ ?_ _ | refine Below.trans ?_ (Below.mono (by assumption) ?_) | (simp; done) | (simp; omega) | omega))⟩
set_option maxHeartbeats 2000000 in
theorem c_spec_DrawMostPassages (A : Option Addr) (cs : List Int) (cap : Nat) (w : World) (hr : Rds cB 1 w A cs) (hby : Bytes cs) (hl : cs.length ≤ 1000000000) :
    Calls Try.prog 46 #[.slice A cs.length cap] w fun e w' => ∃ (A' : Option Addr) (cp : Nat) (xs : List (Int × Bool × Int × Int)) (g : Int), e = .returned (.tuple #[.slice A' xs.length cp, .int .i64 g]) ∧ FreshA cPas 4 26 w.heap.size w' A' cp xs ∧ xs.length ≤ 14 ∧ (-1 ≤ g ∧ g ≤ 31) ∧ Below w.heap.size w w' := by
  go_enter Try.func46, Try.ntmps46
  go_wp2_with (go_at_call 77; refine (c_spec_DrawClashPairs A cs cap _ (hr.below (by (repeat' (first | exact Below.refl _ _ | assumption | refine Below.setCell ?_ ?_ _ | refine Below.drew ?_ | refine Below.alloc ?_ ?_ _ | refine Below.trans ?_ (Below.mono (by assumption) ?_) | (simp; done) | (simp; omega) | omega)))) hby hl).mono ?_; rintro e w1 ⟨A1, cp1, xs, g, rfl, hF1, hxl, hg, hb⟩)
  go_ret2
  exact ⟨A1, cp1, xs, g, rfl, hF1.mono (by first | omega | (simp; done) | (simp; omega)), hxl, hg, by (repeat' (first | exact Below.refl _ _ | assumption | refine Below.setCell ?_ ?_ _ | refine Below.drew ?_ | refine Below.alloc ?_ ?_ _ | refine Below.trans ?_ (Below.mono (by assumption) ?_) | (simp; done) | (simp; omega) | omega))⟩
set_option maxHeartbeats 2000000 in
theorem c_spec_DrawArePassages (A : Option Addr) (cs : List Int) (cap : Nat) (w : World) (hr : Rds cB 1 w A cs) (hby : Bytes cs) (hl : cs.length ≤ 1000000000) :
    Calls Try.prog 82 #[.slice A cs.length cap] w fun e w' => ∃ (A' : Option Addr) (cp : Nat) (xs : List (Int × Bool × Int × Int)), e = .returned (.slice A' xs.length cp) ∧ FreshA cPas 4 26 w.heap.size w' A' cp xs ∧ xs.length ≤ 14 ∧ Below w.heap.size w w' := by
  go_enter Try.func82, Try.ntmps82
  go_wp2_with (fail)
  refine (c_passages (w.heap.size) A cs cap 0 _ (CurS.new hr (Below.refl _ _) (by simp)) hby (by omega) hl).mono ?_
  rintro e W1 ⟨A1, cp1, xs, rfl, hF1, hxl, hcu1, hg1⟩
  have hz1 := hg1.size
  try simp at hz1
  go_wp2_with (fail)
  go_ret
  exact ⟨A1, cp1, xs, rfl, FreshA.mono hF1 (by simp), hxl, by (repeat' (first | exact Below.refl _ _ | assumption | refine Below.setCell ?_ ?_ _ | refine Below.drew ?_ | refine Below.alloc ?_ ?_ _ | refine below_row ?_ (by assumption) ?_ ?_ | refine Below.trans ?_ (Below.mono (by assumption) ?_) | (simp; done) | (simp; omega) | omega))⟩
set_option maxHeartbeats 2000000 in
theorem c_spec_DrawBusyMinutes (A : Option Addr) (cs : List Int) (cap : Nat) (w : World) (hr : Rds cB 1 w A cs) (hby : Bytes cs) (hl : cs.length ≤ 1000000000) :
    Calls Try.prog 50 #[.slice A cs.length cap] w fun e w' => ∃ (A' : Option Addr) (cp : Nat) (xs : List (Int × Bool × Int × Int)), e = .returned (.slice A' xs.length cp) ∧ FreshA cPas 4 26 w.heap.size w' A' cp xs ∧ xs.length ≤ 14 ∧ Below w.heap.size w w' := by
  go_enter Try.func50, Try.ntmps50
  go_wp2_with (go_at_call 82; refine (c_spec_DrawArePassages A cs cap _ (hr.below (by (repeat' (first | exact Below.refl _ _ | assumption | refine Below.setCell ?_ ?_ _ | refine Below.drew ?_ | refine Below.alloc ?_ ?_ _ | refine Below.trans ?_ (Below.mono (by assumption) ?_) | (simp; done) | (simp; omega) | omega)))) hby hl).mono ?_; rintro e w1 ⟨A1, cp1, xs, rfl, hF1, hxl, hb⟩)
  go_ret
  exact ⟨A1, cp1, xs, rfl, hF1.mono (by first | omega | (simp; done) | (simp; omega)), hxl, by (repeat' (first | exact Below.refl _ _ | assumption | refine Below.setCell ?_ ?_ _ | refine Below.drew ?_ | refine Below.alloc ?_ ?_ _ | refine Below.trans ?_ (Below.mono (by assumption) ?_) | (simp; done) | (simp; omega) | omega))⟩
set_option maxRecDepth 100000 in
set_option maxHeartbeats 4000000 in
theorem c_spec_DrawFreeFrom (A : Option Addr) (cs : List Int) (cap : Nat) (w : World) (hr : Rds cB 1 w A cs) (hby : Bytes cs) (hl : cs.length ≤ 1000000000) :
    Calls Try.prog 51 #[.slice A cs.length cap] w fun e w' => ∃ (A' : Option Addr) (cp : Nat) (xs : List (Int × Bool × Int × Int)) (f n : Int), e = .returned (.tuple #[.slice A' xs.length cp, .int .i64 f, .int .i64 n]) ∧ FreshA cPas 4 26 w.heap.size w' A' cp xs ∧ xs.length ≤ 14 ∧ (-1 ≤ f ∧ f ≤ 10000) ∧ (0 ≤ n ∧ n ≤ 9999) ∧ Below w.heap.size w w' := by
  go_enter Try.func51, Try.ntmps51
  go_wp2_with (fail)
  refine (c_passages (w.heap.size) A cs cap 0 _ (CurS.new hr (Below.refl _ _) (by simp)) hby (by omega) hl).mono ?_
  rintro e W1 ⟨A1, cp1, xs, rfl, hF1, hxl, hcu1, hg1⟩
  have hz1 := hg1.size
  try simp at hz1
  go_wp2_with (fail)
  refine (c_minute w.heap.size A cs cap (0 + 80) _ hcu1 hby (by omega) hl).mono ?_
  rintro e W2 ⟨x2, rfl, hx2a, hx2b, hcu2, hg2⟩
  have hz2 := hg2.size
  go_wp2_with (fail)
  refine (c_among w.heap.size A cs cap (0 + 82) _ ([1, 5, 10, 60, 9999, 0, 30] : List Int) _ (0) (9999) _ (by repeat' (first | exact CurS.mono hcu2 (by omega) | refine CurS.setc ?_ ?_ | refine CurS.allo ?_ | refine CurS.drw ?_ | (simp; done) | (simp at *; omega) | omega)) hby (by omega) hl (Rds.of_lit (by simp) (by intro i x h; rcases i with _ | _ | _ | _ | _ | _ | _ | i <;> simp at h ⊢ <;> first | exact h | omega)) (by simp) (by intro a ha; cases ha; simp; omega) (fun k hk => (show ∀ x ∈ ([1, 5, 10, 60, 9999, 0, 30] : List Int), 0 ≤ x ∧ x ≤ 9999 by intro x hx; simp at hx; omega) _ (List.getElem_mem hk))).mono ?_
  rintro e W3 ⟨x3, rfl, hx3a, hx3b, hcu3, hg3⟩
  have hc3 := cellRow hg3
  have hf3 := frozRow hg3
  have hz3 := hg3.size
  have hlt3 := hcu3.lt
  try simp at hz3
  go_wp2_with (fail)
  refine bodyPost_ret (results_tmp3 rfl _ _ _) rfl ?_
  exact ⟨A1, cp1, xs, x2, x3, rfl, FreshA.mono (FreshA.rowb (FreshA.below (FreshA.rowb (FreshA.mono (B' := w.heap.size + 1) hF1 (by simp)) hg2 (by omega)) (by (repeat' (first | exact Below.refl _ _ | assumption | refine Below.setCell ?_ ?_ _ | refine Below.drew ?_ | refine Below.alloc ?_ ?_ _ | refine Below.trans ?_ (Below.mono (by assumption) ?_) | (simp; done) | (simp; omega) | omega)))) hg3 (by omega)) (by omega), hxl, ⟨hx2a, hx2b⟩, ⟨hx3a, hx3b⟩, by (repeat' (first | exact Below.refl _ _ | assumption | refine Below.setCell ?_ ?_ _ | refine Below.drew ?_ | refine Below.alloc ?_ ?_ _ | refine below_row ?_ (by assumption) ?_ ?_ | refine Below.trans ?_ (Below.mono (by assumption) ?_) | (simp; done) | (simp; omega) | omega))⟩

set_option maxRecDepth 100000 in
set_option maxHeartbeats 4000000 in
theorem c_spec_DrawSmallestDelay (A : Option Addr) (cs : List Int) (cap : Nat) (w : World) (hr : Rds cB 1 w A cs) (hby : Bytes cs) (hl : cs.length ≤ 1000000000) :
    Calls Try.prog 45 #[.slice A cs.length cap] w fun e w' => ∃ (A' : Option Addr) (cp : Nat) (xs : List (Int × Bool × Int × Int)) (pi : Int) (pd : Bool) (pa pb g : Int), e = .returned (.tuple #[.slice A' xs.length cp, .agg #[.int .i64 pi, .bool pd, .int .i64 pa, .int .i64 pb], .int .i64 g]) ∧ FreshA cPas 4 26 w.heap.size w' A' cp xs ∧ xs.length ≤ 14 ∧ (-1 ≤ g ∧ g ≤ 31) ∧ Below w.heap.size w w' := by
  go_enter Try.func45, Try.ntmps45
  go_wp2_with (fail)
  refine (c_passages (w.heap.size + 1) A cs cap 0 _ (CurS.new hr (by (repeat' (first | exact Below.refl _ _ | assumption | refine Below.setCell ?_ ?_ _ | refine Below.drew ?_ | refine Below.alloc ?_ ?_ _ | refine Below.trans ?_ (Below.mono (by assumption) ?_) | (simp; done) | (simp; omega) | omega))) (by simp)) hby (by omega) hl).mono ?_
  rintro e W1 ⟨A1, cp1, xs, rfl, hF1, hxl, hcu1, hg1⟩
  have hc1 := cellRow hg1
  have hf1 := frozRow hg1
  have hz1 := hg1.size
  have hlt1 := hcu1.lt
  try simp at hz1
  go_wp2_with (fail)
  refine (c_among (w.heap.size + 1) A cs cap (0 + 80) _ ([50, 51, 1, 2] : List Int) _ (0) (60) _ (by repeat' (first | exact CurS.mono hcu1 (by omega) | refine CurS.setc ?_ ?_ | refine CurS.allo ?_ | refine CurS.drw ?_ | (simp; done) | (simp at *; omega) | omega)) hby (by omega) hl (Rds.of_lit (by simp) (by intro i x h; rcases i with _ | _ | _ | _ | i <;> simp at h ⊢ <;> first | exact h | omega)) (by simp) (by intro a ha; cases ha; simp; omega) (fun k hk => (show ∀ x ∈ ([50, 51, 1, 2] : List Int), 0 ≤ x ∧ x ≤ 60 by intro x hx; simp at hx; omega) _ (List.getElem_mem hk))).mono ?_
  rintro e W2 ⟨x2, rfl, hx2a, hx2b, hcu2, hg2⟩
  have hc2 := cellRow hg2
  have hf2 := frozRow hg2
  have hz2 := hg2.size
  have hlt2 := hcu2.lt
  try simp at hz2
  go_wp2_with (fail)
  refine (c_passage (w.heap.size + 1) A cs cap (0 + 81) x2 _ hcu2 hby (by omega) hl (by omega)).mono ?_
  rintro e W3 ⟨⟨pi, pd, pa, pb, rfl⟩, hcu3, hg3⟩
  have hc3 := cellRow hg3
  have hf3 := frozRow hg3
  have hz3 := hg3.size
  have hlt3 := hcu3.lt
  go_wp2_with (fail)
  refine (c_gap (w.heap.size + 1) A cs cap (0 + 87) _ hcu3 hby (by omega) hl).mono ?_
  rintro e W4 ⟨x4, rfl, hx4a, hx4b, hcu4, hg4⟩
  have hc4 := cellRow hg4
  have hf4 := frozRow hg4
  have hz4 := hg4.size
  go_wp2_with (fail)
  refine post_named ?_
  intro WF hWF
  have hF9 : FreshA cPas 4 26 w.heap.size WF A1 cp1 xs := by
    rw [hWF]
    have h4 := FreshA.rowb (FreshA.rowb (FreshA.below (FreshA.rowb (FreshA.below (FreshA.mono (B' := w.heap.size + 2) hF1 (by simp)) (by (repeat' (first | exact Below.refl _ _ | assumption | refine Below.setCell ?_ ?_ _ | refine Below.drew ?_ | refine Below.alloc ?_ ?_ _ | refine Below.trans ?_ (Below.mono (by assumption) ?_) | (simp; done) | (simp; omega) | omega)))) hg2 (by omega)) (by (repeat' (first | exact Below.refl _ _ | assumption | refine Below.setCell ?_ ?_ _ | refine Below.drew ?_ | refine Below.alloc ?_ ?_ _ | refine Below.trans ?_ (Below.mono (by assumption) ?_) | (simp; done) | (simp; omega) | omega)))) hg3 (by omega)) hg4 (by omega)
    exact (((h4.set_low (p := ⟨w.heap.size, 0, none⟩) (by simp) _).set_low (p := ⟨w.heap.size, 1, none⟩) (by simp) _).set_low (p := ⟨w.heap.size, 2, none⟩) (by simp) _).set_low (p := ⟨w.heap.size, 3, none⟩) (by simp) _ |>.mono (by omega)
  have hb9 : Below w.heap.size w WF := by rw [hWF]; (repeat' (first | with_reducible exact Below.refl _ _ | with_reducible assumption | with_reducible refine Below.setCell ?_ ?_ _ | with_reducible refine Below.drew ?_ | with_reducible refine Below.alloc ?_ ?_ _ | with_reducible refine below_row ?_ (by assumption) ?_ ?_ | (dsimp only; omega) | (simp; done) | (simp; omega) | omega))
  have r0 : WF.cell? ⟨w.heap.size, 0, none⟩ = some (.int .i64 pi) := by rw [hWF]; first | (simp [go_sem, ↓IntWalk.iteOmega, *]; done) | (simp [go_sem, ↓IntWalk.iteOmega, *]; intros; omega)
  have r1 : WF.cell? ⟨w.heap.size, 1, none⟩ = some (.bool pd) := by rw [hWF]; first | (simp [go_sem, ↓IntWalk.iteOmega, *]; done) | (simp [go_sem, ↓IntWalk.iteOmega, *]; intros; omega)
  have r2 : WF.cell? ⟨w.heap.size, 2, none⟩ = some (.int .i64 pa) := by rw [hWF]; first | (simp [go_sem, ↓IntWalk.iteOmega, *]; done) | (simp [go_sem, ↓IntWalk.iteOmega, *]; intros; omega)
  have r3 : WF.cell? ⟨w.heap.size, 3, none⟩ = some (.int .i64 pb) := by rw [hWF]; first | (simp [go_sem, ↓IntWalk.iteOmega, *]; done) | (simp [go_sem, ↓IntWalk.iteOmega, *]; intros; omega)
  clear hWF
  refine bodyPost_ret (v := .tuple #[.slice A1 xs.length cp1, .agg #[.int .i64 pi, .bool pd, .int .i64 pa, .int .i64 pb], .int .i64 x4]) ?_ rfl ⟨A1, cp1, xs, pi, pd, pa, pb, x4, rfl, hF9, hxl, ⟨hx4a, hx4b⟩, hb9⟩
  simp [results, Try.results45, go_sem, r0, r1, r2, r3]

set_option maxRecDepth 100000 in
set_option maxHeartbeats 4000000 in
theorem c_spec_DrawDoClash (A : Option Addr) (cs : List Int) (cap : Nat) (w : World) (hr : Rds cB 1 w A cs) (hby : Bytes cs) (hl : cs.length ≤ 1000000000) :
    Calls Try.prog 44 #[.slice A cs.length cap] w fun e w' => ∃ (pi : Int) (pd : Bool) (pa pb : Int) (qi : Int) (qd : Bool) (qa qb g : Int), e = .returned (.tuple #[.agg #[.int .i64 pi, .bool pd, .int .i64 pa, .int .i64 pb], .agg #[.int .i64 qi, .bool qd, .int .i64 qa, .int .i64 qb], .int .i64 g]) ∧ Below w.heap.size w w' := by
  go_enter Try.func44, Try.ntmps44
  go_wp2_with (fail)
  refine (c_passage (w.heap.size + 1 + 1) A cs cap 0 3 _ (CurS.new hr (by (repeat' (first | exact Below.refl _ _ | assumption | refine Below.setCell ?_ ?_ _ | refine Below.drew ?_ | refine Below.alloc ?_ ?_ _ | refine Below.trans ?_ (Below.mono (by assumption) ?_) | (simp; done) | (simp; omega) | omega))) (by simp)) hby (by omega) hl (by omega)).mono ?_
  rintro e W1 ⟨⟨pi, pd, pa, pb, rfl⟩, hcu1, hg1⟩
  have hc1 := cellRow hg1
  have hf1 := frozRow hg1
  have hz1 := hg1.size
  have hlt1 := hcu1.lt
  try simp at hz1
  go_wp2_with (fail)
  refine (c_among (w.heap.size + 1 + 1) A cs cap (0 + 6) _ ([1, 5, 7, 3] : List Int) _ (0) (60) _ (by repeat' (first | exact CurS.mono hcu1 (by omega) | refine CurS.setc ?_ ?_ | refine CurS.allo ?_ | refine CurS.drw ?_ | (simp; done) | (simp at *; omega) | omega)) hby (by omega) hl (Rds.of_lit (by simp) (by intro i x h; rcases i with _ | _ | _ | _ | i <;> simp at h ⊢ <;> first | exact h | omega)) (by simp) (by intro a ha; cases ha; simp; omega) (fun k hk => (show ∀ x ∈ ([1, 5, 7, 3] : List Int), 0 ≤ x ∧ x ≤ 60 by intro x hx; simp at hx; omega) _ (List.getElem_mem hk))).mono ?_
  rintro e W2 ⟨x2, rfl, hx2a, hx2b, hcu2, hg2⟩
  have hc2 := cellRow hg2
  have hf2 := frozRow hg2
  have hz2 := hg2.size
  have hlt2 := hcu2.lt
  try simp at hz2
  go_wp2_with (fail)
  refine (c_passage (w.heap.size + 1 + 1) A cs cap (0 + 7) x2 _ hcu2 hby (by omega) hl (by omega)).mono ?_
  rintro e W3 ⟨⟨qi, qd, qa, qb, rfl⟩, hcu3, hg3⟩
  have hc3 := cellRow hg3
  have hf3 := frozRow hg3
  have hz3 := hg3.size
  have hlt3 := hcu3.lt
  go_wp2_with (fail)
  refine (c_gap (w.heap.size + 1 + 1) A cs cap (0 + 13) _ hcu3 hby (by omega) hl).mono ?_
  rintro e W4 ⟨x4, rfl, hx4a, hx4b, hcu4, hg4⟩
  have hc4 := cellRow hg4
  have hf4 := frozRow hg4
  have hz4 := hg4.size
  go_wp2_with (fail)
  refine post_named ?_
  intro WF hWF
  have hb9 : Below w.heap.size w WF := by rw [hWF]; (repeat' (first | with_reducible exact Below.refl _ _ | with_reducible assumption | with_reducible refine Below.setCell ?_ ?_ _ | with_reducible refine Below.drew ?_ | with_reducible refine Below.alloc ?_ ?_ _ | with_reducible refine below_row ?_ (by assumption) ?_ ?_ | (dsimp only; omega) | (simp; done) | (simp; omega) | omega))
  have r0 : WF.cell? ⟨w.heap.size, 0, none⟩ = some (.int .i64 pi) := by rw [hWF]; first | (simp [go_sem, ↓IntWalk.iteOmega, *]; done) | (simp [go_sem, ↓IntWalk.iteOmega, *]; intros; omega)
  have r1 : WF.cell? ⟨w.heap.size, 1, none⟩ = some (.bool pd) := by rw [hWF]; first | (simp [go_sem, ↓IntWalk.iteOmega, *]; done) | (simp [go_sem, ↓IntWalk.iteOmega, *]; intros; omega)
  have r2 : WF.cell? ⟨w.heap.size, 2, none⟩ = some (.int .i64 pa) := by rw [hWF]; first | (simp [go_sem, ↓IntWalk.iteOmega, *]; done) | (simp [go_sem, ↓IntWalk.iteOmega, *]; intros; omega)
  have r3 : WF.cell? ⟨w.heap.size, 3, none⟩ = some (.int .i64 pb) := by rw [hWF]; first | (simp [go_sem, ↓IntWalk.iteOmega, *]; done) | (simp [go_sem, ↓IntWalk.iteOmega, *]; intros; omega)
  have s0 : WF.cell? ⟨w.heap.size + 1, 0, none⟩ = some (.int .i64 qi) := by rw [hWF]; first | (simp [go_sem, ↓IntWalk.iteOmega, *]; done) | (simp [go_sem, ↓IntWalk.iteOmega, *]; intros; omega)
  have s1 : WF.cell? ⟨w.heap.size + 1, 1, none⟩ = some (.bool qd) := by rw [hWF]; first | (simp [go_sem, ↓IntWalk.iteOmega, *]; done) | (simp [go_sem, ↓IntWalk.iteOmega, *]; intros; omega)
  have s2 : WF.cell? ⟨w.heap.size + 1, 2, none⟩ = some (.int .i64 qa) := by rw [hWF]; first | (simp [go_sem, ↓IntWalk.iteOmega, *]; done) | (simp [go_sem, ↓IntWalk.iteOmega, *]; intros; omega)
  have s3 : WF.cell? ⟨w.heap.size + 1, 3, none⟩ = some (.int .i64 qb) := by rw [hWF]; first | (simp [go_sem, ↓IntWalk.iteOmega, *]; done) | (simp [go_sem, ↓IntWalk.iteOmega, *]; intros; omega)
  clear hWF
  refine bodyPost_ret (v := .tuple #[.agg #[.int .i64 pi, .bool pd, .int .i64 pa, .int .i64 pb], .agg #[.int .i64 qi, .bool qd, .int .i64 qa, .int .i64 qb], .int .i64 x4]) ?_ rfl ⟨pi, pd, pa, pb, qi, qd, qa, qb, x4, rfl, hb9⟩
  simp [results, Try.results44, go_sem, r0, r1, r2, r3, s0, s1, s2, s3]

end Go.Proofs.Ytgjbdcalmodhpaa
